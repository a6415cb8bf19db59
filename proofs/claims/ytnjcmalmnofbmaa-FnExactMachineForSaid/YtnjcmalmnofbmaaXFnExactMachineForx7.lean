/- Printed by this repository's own program (wip/tools/xprint.py) for the law FnExactMachineFor: Lean functions that say what the Go functions compute, and the proofs that the machine comes to just that; no condition beyond those in each statement. -/
import Derived.Test.YtnjcmalmnofbmaaXFnExactMachineForx0
import Derived.Test.YtnjcmalmnofbmaaXFnExactMachineForx1
import Derived.Test.YtnjcmalmnofbmaaXFnExactMachineForx2
import Derived.Test.YtnjcmalmnofbmaaXFnExactMachineForx5
import Derived.Test.YtnjcmalmnofbmaaXFnExactMachineForx6
namespace Go.Proofs.Ytnjcmalmnofbmaa.XFnExactMachineFor
open Go.RowKit Go.Proofs.YtnjcmalmnofbmaaW.PrintWords Go.Proofs.YtnjcmalmnofbmaaW.PrintLast Go.Proofs.YtnjcmalmnofbmaaW.PrintMore
attribute [local go_sem] max2_int min2_int max_two min_two max_three min_three max_four min_four   -- for this text's walks alone
set_option linter.unusedVariables false
set_option linter.unusedSimpArgs false

set_option maxHeartbeats 8000000 in
set_option maxRecDepth 100000 in
theorem laws_FnExactMachineFor.calls (k : Nat) (A0 : Option Addr) (c0 : Nat) (l0 : List (S155)) (a1 : Int) (r : Bool) (w : World) (hr0 : Kd.C k155 w A0 l0.length l0) (hc0 : l0.length ≤ c0) (h : laws_FnExactMachineFor.f k l0 a1 = some r) :
    Calls Try.prog 11 #[.slice A0 l0.length c0, .int .i64 a1] w fun e w' => e = .returned (.bool r) ∧ Below w.heap.size w w' := by
 have hu29 := Try.underlying29
 have HR0 := Aside0.mk hr0
 have HC0 := Aside0.mk hc0
 clear hr0 hc0
 have HB := Aside0.mk (Below.refl w.heap.size w)
 have H : ((laws_szStopS.f l0 1048576).bind fun t263 => (if t263 < 0 then (some true) else ((laws_toStopS.f k l0).bind fun t264 => ((spec_MachineFor.f k t264 a1).bind fun bt267 => ((laws_toStopS.f k l0).bind fun t278 => ((impl_MachineFor.f k t278 a1).bind fun bt281 => ((laws_eqMachine.f k bt281.1 bt281.2.1 bt281.2.2.1 bt267.1 bt267.2.1 bt267.2.2.1).bind fun t292 => (if t292 = true then (laws_FnExactMachineFor.j0 k l0 a1 bt267.2.2.2 t278 bt281.2.2.2 (bt281.2.2.2 != bt267.2.2.2) bt267.1 bt267.2.1 bt267.2.2.1 bt281.1 bt281.2.1 bt281.2.2.1) else (laws_FnExactMachineFor.j0 k l0 a1 bt267.2.2.2 t278 bt281.2.2.2 true bt267.1 bt267.2.1 bt267.2.2.1 bt281.1 bt281.2.1 bt281.2.2.1))))))))) = some r := h
 clear h
 replace H := Option.bind_eq_some_iff.mp H
 obtain ⟨t263, A30, H⟩ := H
 replace H : (if t263 < 0 then (some true) else ((laws_toStopS.f k l0).bind fun t264 => ((spec_MachineFor.f k t264 a1).bind fun bt267 => ((laws_toStopS.f k l0).bind fun t278 => ((impl_MachineFor.f k t278 a1).bind fun bt281 => ((laws_eqMachine.f k bt281.1 bt281.2.1 bt281.2.2.1 bt267.1 bt267.2.1 bt267.2.2.1).bind fun t292 => (if t292 = true then (laws_FnExactMachineFor.j0 k l0 a1 bt267.2.2.2 t278 bt281.2.2.2 (bt281.2.2.2 != bt267.2.2.2) bt267.1 bt267.2.1 bt267.2.2.1 bt281.1 bt281.2.1 bt281.2.2.1) else (laws_FnExactMachineFor.j0 k l0 a1 bt267.2.2.2 t278 bt281.2.2.2 true bt267.1 bt267.2.1 bt267.2.2.1 bt281.1 bt281.2.1 bt281.2.2.1)))))))) = some r := H
 have A3 := Aside0.mk A30
 clear A30
 by_cases c4 : t263 < 0
 ·rw [if_pos c4] at H
  have c4b0 : decide (t263 < 0) = true := decide_eq_true c4
  clear c4
  obtain rfl := Option.some.inj H
  go_enter Try.func11, Try.ntmps11
  go_wp2_with (first | ((with_reducible refine gate_callee (f := 51) rfl ?_); refine goesL_ (some 18) rfl rfl Try.func51 (by kernel_rfl) rfl #[.slice A0 l0.length c0, .int .i64 1048576] rfl a195_ ?_; (with_reducible refine (laws_szStopS.calls _ _ l0 1048576 t263 _ ?side1 ?side2 A3.out).mono ?_); (case side1 => exact a264_); (case side2 => exact HC0.out); rintro e w' ⟨rfl, ⟨nd, rfl⟩⟩; refine ⟨_, rfl, ?_⟩))
  go_ret
  exact ⟨by first | rfl | (simp [errW_none, errW_some] <;> rfl) | (simp [*, errW_none, errW_some] <;> rfl), by repeat (first | (with_reducible first | exact HB.out | apply below_alloc | apply pw_below_drewN | apply below_drew1) | exact HB.out)⟩
 ·rw [if_neg c4] at H
  have c4b0 : decide (t263 < 0) = false := decide_eq_false c4
  clear c4
  replace H := Option.bind_eq_some_iff.mp H
  obtain ⟨t264, A50, H⟩ := H
  replace H : ((spec_MachineFor.f k t264 a1).bind fun bt267 => ((laws_toStopS.f k l0).bind fun t278 => ((impl_MachineFor.f k t278 a1).bind fun bt281 => ((laws_eqMachine.f k bt281.1 bt281.2.1 bt281.2.2.1 bt267.1 bt267.2.1 bt267.2.2.1).bind fun t292 => (if t292 = true then (laws_FnExactMachineFor.j0 k l0 a1 bt267.2.2.2 t278 bt281.2.2.2 (bt281.2.2.2 != bt267.2.2.2) bt267.1 bt267.2.1 bt267.2.2.1 bt281.1 bt281.2.1 bt281.2.2.1) else (laws_FnExactMachineFor.j0 k l0 a1 bt267.2.2.2 t278 bt281.2.2.2 true bt267.1 bt267.2.1 bt267.2.2.1 bt281.1 bt281.2.1 bt281.2.2.1)))))) = some r := H
  have A5 := Aside0.mk A50
  clear A50
  replace H := Option.bind_eq_some_iff.mp H
  obtain ⟨⟨t267, t270, t273, t276⟩, A60, H⟩ := H
  replace H : ((laws_toStopS.f k l0).bind fun t278 => ((impl_MachineFor.f k t278 a1).bind fun bt281 => ((laws_eqMachine.f k bt281.1 bt281.2.1 bt281.2.2.1 t267 t270 t273).bind fun t292 => (if t292 = true then (laws_FnExactMachineFor.j0 k l0 a1 t276 t278 bt281.2.2.2 (bt281.2.2.2 != t276) t267 t270 t273 bt281.1 bt281.2.1 bt281.2.2.1) else (laws_FnExactMachineFor.j0 k l0 a1 t276 t278 bt281.2.2.2 true t267 t270 t273 bt281.1 bt281.2.1 bt281.2.2.1))))) = some r := H
  have A6 := Aside0.mk A60
  clear A60
  replace H := Option.bind_eq_some_iff.mp H
  obtain ⟨t278, A70, H⟩ := H
  replace H : ((impl_MachineFor.f k t278 a1).bind fun bt281 => ((laws_eqMachine.f k bt281.1 bt281.2.1 bt281.2.2.1 t267 t270 t273).bind fun t292 => (if t292 = true then (laws_FnExactMachineFor.j0 k l0 a1 t276 t278 bt281.2.2.2 (bt281.2.2.2 != t276) t267 t270 t273 bt281.1 bt281.2.1 bt281.2.2.1) else (laws_FnExactMachineFor.j0 k l0 a1 t276 t278 bt281.2.2.2 true t267 t270 t273 bt281.1 bt281.2.1 bt281.2.2.1)))) = some r := H
  have A7 := Aside0.mk A70
  clear A70
  replace H := Option.bind_eq_some_iff.mp H
  obtain ⟨⟨t281, t284, t287, t290⟩, A80, H⟩ := H
  replace H : ((laws_eqMachine.f k t281 t284 t287 t267 t270 t273).bind fun t292 => (if t292 = true then (laws_FnExactMachineFor.j0 k l0 a1 t276 t278 t290 (t290 != t276) t267 t270 t273 t281 t284 t287) else (laws_FnExactMachineFor.j0 k l0 a1 t276 t278 t290 true t267 t270 t273 t281 t284 t287))) = some r := H
  have A8 := Aside0.mk A80
  clear A80
  have HC9 := Aside0.mk H
  clear H
  go_enter Try.func11, Try.ntmps11
  go_upto_region 8 with (first | ((with_reducible refine gate_callee (f := 51) rfl ?_); refine goesL_ (some 18) rfl rfl Try.func51 (by kernel_rfl) rfl #[.slice A0 l0.length c0, .int .i64 1048576] rfl a195_ ?_; (with_reducible refine (laws_szStopS.calls _ _ l0 1048576 t263 _ ?side1 ?side2 A3.out).mono ?_); (case side1 => exact a264_); (case side2 => exact HC0.out); rintro e w' ⟨rfl, ⟨nd, rfl⟩⟩; refine ⟨_, rfl, ?_⟩) | ((with_reducible refine gate_callee (f := 53) rfl ?_); refine goesL_ (some 23) rfl rfl Try.func53 (by kernel_rfl) rfl #[.slice A0 l0.length c0] rfl a195_ ?_; (with_reducible refine (laws_toStopS.calls k _ _ l0 t264 _ ?side1 ?side2 A5.out).mono ?_); (case side1 => exact a264_); (case side2 => exact HC0.out); rintro e w10 ⟨v265, rfl, ho0, hb⟩; refine ⟨_, rfl, ?_⟩; have n0_ := Aside0.mk (Kd.R_lower ho0 (below_size a219_)); have n1_ := Aside0.mk (below_step a219_ hb); clear HB; have HO266 := n0_; have HB := n1_; clear n0_ n1_; (try clear hb); (try clear hb2); (try clear hk); (try clear hi); (try clear ho0); obtain ⟨Ao11, co11, eo11⟩ := Kd.R_slice HO266.out; subst eo11) | ((with_reducible refine gate_callee (f := 52) rfl ?_); refine goesL_ (some 25) rfl rfl Try.func52 (by kernel_rfl) rfl #[.slice Ao11 t264.length co11, .int .i64 a1] rfl a195_ ?_; (with_reducible refine (spec_MachineFor.calls k _ _ t264 a1 t267 t270 t273 t276 _ ?side1 ?side2 A6.out).mono ?_); (case side1 => repeat (first | exact (Kd.R_reads' HO266.out).2.2 | (with_reducible refine Kd.C_alloc ?_ _) | (with_reducible refine Kd.C_drewN ?_ _) | (with_reducible refine Kd.C_drew ?_))); (case side2 => exact (Kd.R_reads' HO266.out).2.1); rintro e w12 ⟨v268, v271, v274, rfl, ho0, ho1, ho2, hb⟩; refine ⟨_, rfl, ?_⟩; have n0_ := Aside0.mk (Kd.R_below a236_ hb); have n1_ := Aside0.mk (Kd.R_lower ho0 (below_size a219_)); have n2_ := Aside0.mk (Kd.R_lower ho1 (below_size a219_)); have n3_ := Aside0.mk (Kd.R_lower ho2 (below_size a219_)); have n4_ := Aside0.mk (below_step a219_ hb); clear HO266; clear HB; have HO266 := n0_; have HO269 := n1_; have HO272 := n2_; have HO275 := n3_; have HB := n4_; clear n0_ n1_ n2_ n3_ n4_; (try clear hb); (try clear hb2); (try clear hk); (try clear hi); (try clear ho0); (try clear ho1); (try clear ho2)) | ((with_reducible refine gate_dst (N := 6) rfl ?_); refine box_event ?hg (N := 6) ?hd (cs := #[.slice none 0 0, .slice none 0 0, .slice none 0 0]) (t := 29) ?hr ?_; (case hd => rfl); (case hg => rfl); (case hr => first | (go_simp; done) | (go_simp; rfl)); intro gb277 hg w13 hbox hb; have n0_ := Aside0.mk (Kd.R_below a236_ hb); have n1_ := Aside0.mk (Kd.R_below a233_ hb); have n2_ := Aside0.mk (Kd.R_below a234_ hb); have n3_ := Aside0.mk (Kd.R_below a235_ hb); have n4_ := Aside0.mk (below_step a219_ hb); have n5_ := Aside0.mk (hbox); have n6_ := Aside0.mk ((by rw [hg]; exact (below_size a219_) : w.heap.size ≤ gb277)); have n7_ := Aside0.mk ((by rw [hg]; exact (below_size a219_) : w.heap.size ≤ gb277)); clear HO266; clear HO269; clear HO272; clear HO275; clear HB; have HO266 := n0_; have HO269 := n1_; have HO272 := n2_; have HO275 := n3_; have HB := n4_; have BK277 := n5_; have GW277 := n6_; have GE277 := n7_; clear n0_ n1_ n2_ n3_ n4_ n5_ n6_ n7_; clear hb hbox hg; obtain ⟨Ao14, co14, eo14⟩ := Kd.R_slice HO269.out; subst eo14; have hcz15_0 : w13.cell? ⟨gb277, 0, none⟩ = some (.slice none 0 0) := (blk_cell BK277.out 0).trans rfl; have hcz15_1 : w13.cell? ⟨gb277, 1, none⟩ = some (.slice none 0 0) := (blk_cell BK277.out 1).trans rfl; have hcz15_2 : w13.cell? ⟨gb277, 2, none⟩ = some (.slice none 0 0) := (blk_cell BK277.out 2).trans rfl; have hfz15_0 := blk_frozen BK277.out 0; have hfz15_1 := blk_frozen BK277.out 1; have hfz15_2 := blk_frozen BK277.out 2; obtain ⟨Ao16, co16, eo16⟩ := Kd.R_slice HO272.out; subst eo16; obtain ⟨Ao17, co17, eo17⟩ := Kd.R_slice HO275.out; subst eo17) | ((with_reducible refine gate_callee (f := 53) rfl ?_); refine goesL_ (some 29) rfl rfl Try.func53 (by kernel_rfl) rfl #[.slice A0 l0.length c0] rfl a195_ ?_; (with_reducible refine (laws_toStopS.calls k _ _ l0 t278 _ ?side1 ?side2 A7.out).mono ?_); (case side1 => exact Kd.C_below HR0.out a216_); (case side2 => exact HC0.out); rintro e w18 ⟨v279, rfl, ho0, hb⟩; refine ⟨_, rfl, ?_⟩; have n0_ := Aside0.mk (Kd.R_elder' a228_ (Kd.R_base ho0) hb); have n1_ := Aside0.mk (Kd.R_below (by (with_reducible repeat (first | apply Kd.R_alloc | apply Kd.R_drewN | apply Kd.R_drew)); exact (Kd.R_mono (Kd.R_far (p := ⟨gb277, 2, none⟩) (Kd.R_far (p := ⟨gb277, 1, none⟩) (Kd.R_far (p := ⟨gb277, 0, none⟩) (Kd.R_types HO269.out BK277.out (by decide)) (fun _ hk => hk.2) (.slice Ao14 t267.length co14)) (fun _ hk => hk.2) (.slice Ao16 t270.length co16)) (fun _ hk => hk.2) (.slice Ao17 t273.length co17)) (fun _ h_ => h_.1))) hb); have n2_ := Aside0.mk (Kd.R_below (by (with_reducible repeat (first | apply Kd.R_alloc | apply Kd.R_drewN | apply Kd.R_drew)); exact (Kd.R_mono (Kd.R_far (p := ⟨gb277, 2, none⟩) (Kd.R_far (p := ⟨gb277, 1, none⟩) (Kd.R_far (p := ⟨gb277, 0, none⟩) (Kd.R_types HO272.out BK277.out (by decide)) (fun _ hk => hk.2) (.slice Ao14 t267.length co14)) (fun _ hk => hk.2) (.slice Ao16 t270.length co16)) (fun _ hk => hk.2) (.slice Ao17 t273.length co17)) (fun _ h_ => h_.1))) hb); have n3_ := Aside0.mk (Kd.R_below (by (with_reducible repeat (first | apply Kd.R_alloc | apply Kd.R_drewN | apply Kd.R_drew)); exact (Kd.R_mono (Kd.R_far (p := ⟨gb277, 2, none⟩) (Kd.R_far (p := ⟨gb277, 1, none⟩) (Kd.R_far (p := ⟨gb277, 0, none⟩) (Kd.R_types HO275.out BK277.out (by decide)) (fun _ hk => hk.2) (.slice Ao14 t267.length co14)) (fun _ hk => hk.2) (.slice Ao16 t270.length co16)) (fun _ hk => hk.2) (.slice Ao17 t273.length co17)) (fun _ h_ => h_.1))) hb); have n4_ := Aside0.mk (Kd.R_lower (Kd.R_new' ho0 (Kd.R_lt a228_)) (below_size a216_)); have n5_ := Aside0.mk (blk_below (g := gb277) (o := .cells #[.slice Ao14 t267.length co14, .slice Ao16 t270.length co16, .slice Ao17 t273.length co17] 29 (0, 0)) (by (with_reducible repeat (first | refine blk_drewN ?_ _ | refine blk_drew ?_ | refine blk_alloc ?_ _)); refine blk_put (cs := #[.slice Ao14 t267.length co14, .slice Ao16 t270.length co16, .slice none 0 0]) ?_ 2 _ rfl; (with_reducible repeat (first | refine blk_drewN ?_ _ | refine blk_drew ?_ | refine blk_alloc ?_ _)); refine blk_put (cs := #[.slice Ao14 t267.length co14, .slice none 0 0, .slice none 0 0]) ?_ 1 _ rfl; (with_reducible repeat (first | refine blk_drewN ?_ _ | refine blk_drew ?_ | refine blk_alloc ?_ _)); refine blk_put (cs := #[.slice none 0 0, .slice none 0 0, .slice none 0 0]) ?_ 0 _ rfl; (with_reducible repeat (first | refine blk_drewN ?_ _ | refine blk_drew ?_ | refine blk_alloc ?_ _)); exact BK277.out) hb); have n6_ := Aside0.mk (below_step a216_ hb); clear HO266; clear HO269; clear HO272; clear HO275; clear BK277; clear HB; have HO266 := n0_; have HO269 := n1_; have HO272 := n2_; have HO275 := n3_; have HO280 := n4_; have BK277 := n5_; have HB := n6_; clear n0_ n1_ n2_ n3_ n4_ n5_ n6_; (try clear hb); (try clear hb2); (try clear hk); (try clear hi); (try clear ho0); obtain ⟨Ao19, co19, eo19⟩ := Kd.R_slice HO280.out; subst eo19) | ((with_reducible refine gate_callee (f := 54) rfl ?_); refine goesL_ (some 33) rfl rfl Try.func54 (by kernel_rfl) rfl #[.slice Ao19 t278.length co19, .int .i64 a1] rfl a195_ ?_; (with_reducible refine (impl_MachineFor.calls k _ _ t278 a1 t281 t284 t287 t290 _ ?side1 ?side2 A8.out).mono ?_); (case side1 => repeat (first | exact (Kd.R_reads' HO280.out).2.2 | (with_reducible refine Kd.C_alloc ?_ _) | (with_reducible refine Kd.C_drewN ?_ _) | (with_reducible refine Kd.C_drew ?_))); (case side2 => exact (Kd.R_reads' HO280.out).2.1); rintro e w20 ⟨v282, v285, v288, rfl, ho0, ho1, ho2, hb⟩; refine ⟨_, rfl, ?_⟩; have n0_ := Aside0.mk (Kd.R_below a236_ hb); have n1_ := Aside0.mk (Kd.R_mono (Kd.R_told (Kd.R_told (Kd.R_told (Kd.R_old a233_ hb) (Kd.R_base ho0)) (Kd.R_base ho1)) (Kd.R_base ho2)) (fun _ h_ => h_.1)); have n2_ := Aside0.mk (Kd.R_mono (Kd.R_told (Kd.R_told (Kd.R_told (Kd.R_old a234_ hb) (Kd.R_base ho0)) (Kd.R_base ho1)) (Kd.R_base ho2)) (fun _ h_ => h_.1)); have n3_ := Aside0.mk (Kd.R_mono (Kd.R_told (Kd.R_told (Kd.R_told (Kd.R_old a235_ hb) (Kd.R_base ho0)) (Kd.R_base ho1)) (Kd.R_base ho2)) (fun _ h_ => h_.1)); have n4_ := Aside0.mk (Kd.R_below a243_ hb); have n5_ := Aside0.mk (Kd.R_lower (Kd.R_new' (Kd.R_new' (Kd.R_new' ho0 (Kd.R_lt a233_)) (Kd.R_lt a234_)) (Kd.R_lt a235_)) (below_size a216_)); have n6_ := Aside0.mk (Kd.R_lower (Kd.R_new' (Kd.R_new' (Kd.R_new' ho1 (Kd.R_lt a233_)) (Kd.R_lt a234_)) (Kd.R_lt a235_)) (below_size a216_)); have n7_ := Aside0.mk (Kd.R_lower (Kd.R_new' (Kd.R_new' (Kd.R_new' ho2 (Kd.R_lt a233_)) (Kd.R_lt a234_)) (Kd.R_lt a235_)) (below_size a216_)); have n8_ := Aside0.mk (blk_below (g := gb277) a196_ hb); have n9_ := Aside0.mk (below_step a216_ hb); clear HO266; clear HO269; clear HO272; clear HO275; clear HO280; clear BK277; clear HB; have HO266 := n0_; have HO269 := n1_; have HO272 := n2_; have HO275 := n3_; have HO280 := n4_; have HO283 := n5_; have HO286 := n6_; have HO289 := n7_; have BK277 := n8_; have HB := n9_; clear n0_ n1_ n2_ n3_ n4_ n5_ n6_ n7_ n8_ n9_; (try clear hb); (try clear hb2); (try clear hk); (try clear hi); (try clear ho0); (try clear ho1); (try clear ho2)) | ((with_reducible refine gate_dst (N := 9) rfl ?_); refine box_event ?hg (N := 9) ?hd (cs := #[.slice none 0 0, .slice none 0 0, .slice none 0 0]) (t := 29) ?hr ?_; (case hd => rfl); (case hg => rfl); (case hr => first | (go_simp; done) | (go_simp; rfl)); intro gb291 hg w21 hbox hb; have n0_ := Aside0.mk (Kd.R_below a236_ hb); have n1_ := Aside0.mk (Kd.R_below a233_ hb); have n2_ := Aside0.mk (Kd.R_below a234_ hb); have n3_ := Aside0.mk (Kd.R_below a235_ hb); have n4_ := Aside0.mk (Kd.R_below a243_ hb); have n5_ := Aside0.mk (Kd.R_below (by (with_reducible repeat (first | apply Kd.R_alloc | apply Kd.R_drewN | apply Kd.R_drew)); exact HO283.out) hb); have n6_ := Aside0.mk (Kd.R_below (by (with_reducible repeat (first | apply Kd.R_alloc | apply Kd.R_drewN | apply Kd.R_drew)); exact HO286.out) hb); have n7_ := Aside0.mk (Kd.R_below (by (with_reducible repeat (first | apply Kd.R_alloc | apply Kd.R_drewN | apply Kd.R_drew)); exact HO289.out) hb); have n8_ := Aside0.mk (blk_below (g := gb277) a196_ hb); have n9_ := Aside0.mk (below_step a216_ hb); have n10_ := Aside0.mk (hbox); have n11_ := Aside0.mk ((by rw [hg]; exact (below_size a216_) : w.heap.size ≤ gb291)); have n12_ := Aside0.mk ((by rw [hg]; exact (below_size a216_) : w.heap.size ≤ gb291)); have n13_ := Aside0.mk ((a245_ : gb277 ≠ gb291)); have n14_ := Aside0.mk ((a246_ : gb291 ≠ gb277)); clear HO266; clear HO269; clear HO272; clear HO275; clear HO280; clear HO283; clear HO286; clear HO289; clear BK277; clear HB; have HO266 := n0_; have HO269 := n1_; have HO272 := n2_; have HO275 := n3_; have HO280 := n4_; have HO283 := n5_; have HO286 := n6_; have HO289 := n7_; have BK277 := n8_; have HB := n9_; have BK291 := n10_; have GW291 := n11_; have GE291 := n12_; have NB277_291 := n13_; have NB291_277 := n14_; clear n0_ n1_ n2_ n3_ n4_ n5_ n6_ n7_ n8_ n9_ n10_ n11_ n12_ n13_ n14_; clear hb hbox hg; obtain ⟨Ao22, co22, eo22⟩ := Kd.R_slice HO283.out; subst eo22; have hnb23 := NB291_277.out; have hnc23 := NB277_291.out; have hcz24_0 : w21.cell? ⟨gb291, 0, none⟩ = some (.slice none 0 0) := (blk_cell BK291.out 0).trans rfl; have hcz24_1 : w21.cell? ⟨gb291, 1, none⟩ = some (.slice none 0 0) := (blk_cell BK291.out 1).trans rfl; have hcz24_2 : w21.cell? ⟨gb291, 2, none⟩ = some (.slice none 0 0) := (blk_cell BK291.out 2).trans rfl; have hfz24_0 := blk_frozen BK291.out 0; have hfz24_1 := blk_frozen BK291.out 1; have hfz24_2 := blk_frozen BK291.out 2; obtain ⟨Ao25, co25, eo25⟩ := Kd.R_slice HO286.out; subst eo25; obtain ⟨Ao26, co26, eo26⟩ := Kd.R_slice HO289.out; subst eo26))
  (try simp only [Act.put, List.setIfInBounds_toArray, List.set_cons_zero, List.set_cons_succ])
  go_cut [44] (fun v44 wc => ∃ (kq : Nat) (x44_8 : Bool), v44 = .bool x44_8 ∧ Aside0 (laws_FnExactMachineFor.j0 kq l0 a1 t276 t278 t290 x44_8 t267 t270 t273 t281 t284 t287 = some r) ∧ Aside0 (kq ≤ k) ∧ Aside0 (Kd.R k118 118 wc w.heap.size (fun _ => True) (.slice Ao19 t278.length co19) t278) ∧ Aside0 (Kd.R (Kd.int .i16) 38 wc w.heap.size (fun k_ => some k_ ≠ ((.slice Ao16 t270.length co16) : Value).ownBlock ∧ some k_ ≠ ((.slice Ao17 t273.length co17) : Value).ownBlock ∧ some k_ ≠ ((.slice Ao22 t281.length co22) : Value).ownBlock ∧ some k_ ≠ ((.slice Ao25 t284.length co25) : Value).ownBlock ∧ some k_ ≠ ((.slice Ao26 t287.length co26) : Value).ownBlock) (.slice Ao14 t267.length co14) t267) ∧ Aside0 (Kd.R (Kd.int .i16) 38 wc w.heap.size (fun k_ => some k_ ≠ ((.slice Ao14 t267.length co14) : Value).ownBlock ∧ some k_ ≠ ((.slice Ao17 t273.length co17) : Value).ownBlock ∧ some k_ ≠ ((.slice Ao22 t281.length co22) : Value).ownBlock ∧ some k_ ≠ ((.slice Ao25 t284.length co25) : Value).ownBlock ∧ some k_ ≠ ((.slice Ao26 t287.length co26) : Value).ownBlock) (.slice Ao16 t270.length co16) t270) ∧ Aside0 (Kd.R (Kd.int .i16) 38 wc w.heap.size (fun k_ => some k_ ≠ ((.slice Ao14 t267.length co14) : Value).ownBlock ∧ some k_ ≠ ((.slice Ao16 t270.length co16) : Value).ownBlock ∧ some k_ ≠ ((.slice Ao22 t281.length co22) : Value).ownBlock ∧ some k_ ≠ ((.slice Ao25 t284.length co25) : Value).ownBlock ∧ some k_ ≠ ((.slice Ao26 t287.length co26) : Value).ownBlock) (.slice Ao17 t273.length co17) t273) ∧ Aside0 (Kd.R (Kd.int .i16) 38 wc w.heap.size (fun k_ => some k_ ≠ ((.slice Ao14 t267.length co14) : Value).ownBlock ∧ some k_ ≠ ((.slice Ao16 t270.length co16) : Value).ownBlock ∧ some k_ ≠ ((.slice Ao17 t273.length co17) : Value).ownBlock ∧ some k_ ≠ ((.slice Ao25 t284.length co25) : Value).ownBlock ∧ some k_ ≠ ((.slice Ao26 t287.length co26) : Value).ownBlock) (.slice Ao22 t281.length co22) t281) ∧ Aside0 (Kd.R (Kd.int .i16) 38 wc w.heap.size (fun k_ => some k_ ≠ ((.slice Ao14 t267.length co14) : Value).ownBlock ∧ some k_ ≠ ((.slice Ao16 t270.length co16) : Value).ownBlock ∧ some k_ ≠ ((.slice Ao17 t273.length co17) : Value).ownBlock ∧ some k_ ≠ ((.slice Ao22 t281.length co22) : Value).ownBlock ∧ some k_ ≠ ((.slice Ao26 t287.length co26) : Value).ownBlock) (.slice Ao25 t284.length co25) t284) ∧ Aside0 (Kd.R (Kd.int .i16) 38 wc w.heap.size (fun k_ => some k_ ≠ ((.slice Ao14 t267.length co14) : Value).ownBlock ∧ some k_ ≠ ((.slice Ao16 t270.length co16) : Value).ownBlock ∧ some k_ ≠ ((.slice Ao17 t273.length co17) : Value).ownBlock ∧ some k_ ≠ ((.slice Ao22 t281.length co22) : Value).ownBlock ∧ some k_ ≠ ((.slice Ao25 t284.length co25) : Value).ownBlock) (.slice Ao26 t287.length co26) t287) ∧ Aside0 (wc.heap[gb277]? = some (.cells #[(.slice Ao14 t267.length co14), (.slice Ao16 t270.length co16), (.slice Ao17 t273.length co17)] 29 (0, 0))) ∧ Aside0 (wc.heap[gb291]? = some (.cells #[(.slice Ao22 t281.length co22), (.slice Ao25 t284.length co25), (.slice Ao26 t287.length co26)] 29 (0, 0))) ∧ Aside0 (Below w.heap.size w wc))
  case first =>
   have H := HC9.out
   clear HC9
   replace H := Option.bind_eq_some_iff.mp H
   obtain ⟨t292, A270, H⟩ := H
   replace H : (if t292 = true then (laws_FnExactMachineFor.j0 k l0 a1 t276 t278 t290 (t290 != t276) t267 t270 t273 t281 t284 t287) else (laws_FnExactMachineFor.j0 k l0 a1 t276 t278 t290 true t267 t270 t273 t281 t284 t287)) = some r := H
   have A27 := Aside0.mk A270
   clear A270
   by_cases c28 : t292 = true
   ·subst c28
    have H1 : (laws_FnExactMachineFor.j0 k l0 a1 t276 t278 t290 (t290 != t276) t267 t270 t273 t281 t284 t287) = some r := by rw [if_pos rfl] at H; exact H
    clear H
    have H := H1
    clear H1
    have H' := Aside0.mk H
    clear H
    have hnb29 := NB291_277.out
    have hnc29 := NB277_291.out
    have hcz30_0 : w21.cell? ⟨gb291, 0, none⟩ = some (.slice none 0 0) := (blk_cell BK291.out 0).trans rfl
    have hcz30_1 : w21.cell? ⟨gb291, 1, none⟩ = some (.slice none 0 0) := (blk_cell BK291.out 1).trans rfl
    have hcz30_2 : w21.cell? ⟨gb291, 2, none⟩ = some (.slice none 0 0) := (blk_cell BK291.out 2).trans rfl
    have hfz30_0 := blk_frozen BK291.out 0
    have hfz30_1 := blk_frozen BK291.out 1
    have hfz30_2 := blk_frozen BK291.out 2
    have hcz31_0 : w21.cell? ⟨gb277, 0, none⟩ = some (.slice Ao14 t267.length co14) := (blk_cell BK277.out 0).trans rfl
    have hcz31_1 : w21.cell? ⟨gb277, 1, none⟩ = some (.slice Ao16 t270.length co16) := (blk_cell BK277.out 1).trans rfl
    have hcz31_2 : w21.cell? ⟨gb277, 2, none⟩ = some (.slice Ao17 t273.length co17) := (blk_cell BK277.out 2).trans rfl
    have hfz31_0 := blk_frozen BK277.out 0
    have hfz31_1 := blk_frozen BK277.out 1
    have hfz31_2 := blk_frozen BK277.out 2
    go_wp2_with (first | ((with_reducible refine gate_callee (f := 19) rfl ?_); refine goesL_ (some 38) rfl rfl Try.func19 (by kernel_rfl) rfl #[.agg #[.slice Ao22 t281.length co22, .slice Ao25 t284.length co25, .slice Ao26 t287.length co26], .agg #[.slice Ao14 t267.length co14, .slice Ao16 t270.length co16, .slice Ao17 t273.length co17]] rfl a195_ ?_; (with_reducible refine (laws_eqMachine.calls k _ _ t281 _ _ t284 _ _ t287 _ _ t267 _ _ t270 _ _ t273 true _ ?side1 ?side2 ?side3 ?side4 ?side5 ?side6 ?side7 ?side8 ?side9 ?side10 ?side11 ?side12 A27.out).mono ?_); (case side1 => exact a257_); (case side2 => exact (Kd.R_reads' HO283.out).2.1); (case side3 => exact a258_); (case side4 => exact (Kd.R_reads' HO286.out).2.1); (case side5 => exact a259_); (case side6 => exact (Kd.R_reads' HO289.out).2.1); (case side7 => exact a260_); (case side8 => exact (Kd.R_reads' HO269.out).2.1); (case side9 => exact a261_); (case side10 => exact (Kd.R_reads' HO272.out).2.1); (case side11 => exact a262_); (case side12 => exact (Kd.R_reads' HO275.out).2.1); rintro e w32 ⟨rfl, hb⟩; refine ⟨_, rfl, ?_⟩; have n0_ := Aside0.mk (Kd.R_below a229_ hb); have n1_ := Aside0.mk (Kd.R_below a210_ hb); have n2_ := Aside0.mk (Kd.R_below a211_ hb); have n3_ := Aside0.mk (Kd.R_below a212_ hb); have n4_ := Aside0.mk (Kd.R_below a230_ hb); have n5_ := Aside0.mk (Kd.R_below a207_ hb); have n6_ := Aside0.mk (Kd.R_below a208_ hb); have n7_ := Aside0.mk (Kd.R_below a209_ hb); have n8_ := Aside0.mk (blk_below (g := gb277) (o := .cells #[.slice Ao14 t267.length co14, .slice Ao16 t270.length co16, .slice Ao17 t273.length co17] 29 (0, 0)) a222_ hb); have n9_ := Aside0.mk (blk_below (g := gb291) (o := .cells #[.slice Ao22 t281.length co22, .slice Ao25 t284.length co25, .slice Ao26 t287.length co26] 29 (0, 0)) a217_ hb); have n10_ := Aside0.mk (below_step a194_ hb); clear HO266; clear HO269; clear HO272; clear HO275; clear HO280; clear HO283; clear HO286; clear HO289; clear BK277; clear BK291; clear HB; have HO266 := n0_; have HO269 := n1_; have HO272 := n2_; have HO275 := n3_; have HO280 := n4_; have HO283 := n5_; have HO286 := n6_; have HO289 := n7_; have BK277 := n8_; have BK291 := n9_; have HB := n10_; clear n0_ n1_ n2_ n3_ n4_ n5_ n6_ n7_ n8_ n9_ n10_; (try clear hb); (try clear hb2); (try clear hk); (try clear hi)))
    go_meet
    case rel => exact ⟨_, ((t290 != t276)), a242_, H', ⟨by first | omega | exact Nat.le_refl _⟩, ⟨by (with_reducible repeat (first | apply Kd.R_alloc | apply Kd.R_drewN | apply Kd.R_drew)); exact Kd.R_mono HO280.out (fun _ hk => trivial)⟩, ⟨by (with_reducible repeat (first | apply Kd.R_alloc | apply Kd.R_drewN | apply Kd.R_drew)); exact Kd.R_mono HO269.out (fun _ hk => ⟨hk.1.1.1.1, ⟨hk.1.1.1.2, ⟨hk.1.1.2, ⟨hk.1.2, hk.2⟩⟩⟩⟩)⟩, ⟨by (with_reducible repeat (first | apply Kd.R_alloc | apply Kd.R_drewN | apply Kd.R_drew)); exact Kd.R_mono HO272.out (fun _ hk => ⟨hk.1.1.1.1, ⟨hk.1.1.1.2, ⟨hk.1.1.2, ⟨hk.1.2, hk.2⟩⟩⟩⟩)⟩, ⟨by (with_reducible repeat (first | apply Kd.R_alloc | apply Kd.R_drewN | apply Kd.R_drew)); exact Kd.R_mono HO275.out (fun _ hk => ⟨hk.1.1.1.1, ⟨hk.1.1.1.2, ⟨hk.1.1.2, ⟨hk.1.2, hk.2⟩⟩⟩⟩)⟩, ⟨by (with_reducible repeat (first | apply Kd.R_alloc | apply Kd.R_drewN | apply Kd.R_drew)); exact Kd.R_mono HO283.out (fun _ hk => ⟨hk.1.1.2, ⟨hk.1.2, ⟨hk.2, ⟨hk.1.1.1.1, hk.1.1.1.2⟩⟩⟩⟩)⟩, ⟨by (with_reducible repeat (first | apply Kd.R_alloc | apply Kd.R_drewN | apply Kd.R_drew)); exact Kd.R_mono HO286.out (fun _ hk => ⟨hk.1.1.2, ⟨hk.1.2, ⟨hk.2, ⟨hk.1.1.1.1, hk.1.1.1.2⟩⟩⟩⟩)⟩, ⟨by (with_reducible repeat (first | apply Kd.R_alloc | apply Kd.R_drewN | apply Kd.R_drew)); exact Kd.R_mono HO289.out (fun _ hk => ⟨hk.1.1.2, ⟨hk.1.2, ⟨hk.2, ⟨hk.1.1.1.1, hk.1.1.1.2⟩⟩⟩⟩)⟩, ⟨by (with_reducible repeat (first | refine blk_drewN ?_ _ | refine blk_drew ?_ | refine blk_alloc ?_ _)); exact BK277.out⟩, ⟨by (with_reducible repeat (first | refine blk_drewN ?_ _ | refine blk_drew ?_ | refine blk_alloc ?_ _)); exact BK291.out⟩, ⟨by repeat (first | (with_reducible first | exact HB.out | apply below_alloc | apply pw_below_drewN | apply below_drew1 | refine below_set ?_ GE277.out | refine below_set ?_ GE291.out) | exact HB.out)⟩⟩
   ·replace c28 := Bool.eq_false_iff.mpr c28
    subst c28
    have H1 : (laws_FnExactMachineFor.j0 k l0 a1 t276 t278 t290 true t267 t270 t273 t281 t284 t287) = some r := by rw [if_neg (show ¬ (false = true) by decide)] at H; exact H
    clear H
    have H := H1
    clear H1
    have H' := Aside0.mk H
    clear H
    have hnb33 := NB291_277.out
    have hnc33 := NB277_291.out
    have hcz34_0 : w21.cell? ⟨gb291, 0, none⟩ = some (.slice none 0 0) := (blk_cell BK291.out 0).trans rfl
    have hcz34_1 : w21.cell? ⟨gb291, 1, none⟩ = some (.slice none 0 0) := (blk_cell BK291.out 1).trans rfl
    have hcz34_2 : w21.cell? ⟨gb291, 2, none⟩ = some (.slice none 0 0) := (blk_cell BK291.out 2).trans rfl
    have hfz34_0 := blk_frozen BK291.out 0
    have hfz34_1 := blk_frozen BK291.out 1
    have hfz34_2 := blk_frozen BK291.out 2
    have hcz35_0 : w21.cell? ⟨gb277, 0, none⟩ = some (.slice Ao14 t267.length co14) := (blk_cell BK277.out 0).trans rfl
    have hcz35_1 : w21.cell? ⟨gb277, 1, none⟩ = some (.slice Ao16 t270.length co16) := (blk_cell BK277.out 1).trans rfl
    have hcz35_2 : w21.cell? ⟨gb277, 2, none⟩ = some (.slice Ao17 t273.length co17) := (blk_cell BK277.out 2).trans rfl
    have hfz35_0 := blk_frozen BK277.out 0
    have hfz35_1 := blk_frozen BK277.out 1
    have hfz35_2 := blk_frozen BK277.out 2
    go_wp2_with (first | ((with_reducible refine gate_callee (f := 19) rfl ?_); refine goesL_ (some 38) rfl rfl Try.func19 (by kernel_rfl) rfl #[.agg #[.slice Ao22 t281.length co22, .slice Ao25 t284.length co25, .slice Ao26 t287.length co26], .agg #[.slice Ao14 t267.length co14, .slice Ao16 t270.length co16, .slice Ao17 t273.length co17]] rfl a195_ ?_; (with_reducible refine (laws_eqMachine.calls k _ _ t281 _ _ t284 _ _ t287 _ _ t267 _ _ t270 _ _ t273 false _ ?side1 ?side2 ?side3 ?side4 ?side5 ?side6 ?side7 ?side8 ?side9 ?side10 ?side11 ?side12 A27.out).mono ?_); (case side1 => exact a257_); (case side2 => exact (Kd.R_reads' HO283.out).2.1); (case side3 => exact a258_); (case side4 => exact (Kd.R_reads' HO286.out).2.1); (case side5 => exact a259_); (case side6 => exact (Kd.R_reads' HO289.out).2.1); (case side7 => exact a260_); (case side8 => exact (Kd.R_reads' HO269.out).2.1); (case side9 => exact a261_); (case side10 => exact (Kd.R_reads' HO272.out).2.1); (case side11 => exact a262_); (case side12 => exact (Kd.R_reads' HO275.out).2.1); rintro e w36 ⟨rfl, hb⟩; refine ⟨_, rfl, ?_⟩; have n0_ := Aside0.mk (Kd.R_below a229_ hb); have n1_ := Aside0.mk (Kd.R_below a210_ hb); have n2_ := Aside0.mk (Kd.R_below a211_ hb); have n3_ := Aside0.mk (Kd.R_below a212_ hb); have n4_ := Aside0.mk (Kd.R_below a230_ hb); have n5_ := Aside0.mk (Kd.R_below a207_ hb); have n6_ := Aside0.mk (Kd.R_below a208_ hb); have n7_ := Aside0.mk (Kd.R_below a209_ hb); have n8_ := Aside0.mk (blk_below (g := gb277) (o := .cells #[.slice Ao14 t267.length co14, .slice Ao16 t270.length co16, .slice Ao17 t273.length co17] 29 (0, 0)) a222_ hb); have n9_ := Aside0.mk (blk_below (g := gb291) (o := .cells #[.slice Ao22 t281.length co22, .slice Ao25 t284.length co25, .slice Ao26 t287.length co26] 29 (0, 0)) a217_ hb); have n10_ := Aside0.mk (below_step a194_ hb); clear HO266; clear HO269; clear HO272; clear HO275; clear HO280; clear HO283; clear HO286; clear HO289; clear BK277; clear BK291; clear HB; have HO266 := n0_; have HO269 := n1_; have HO272 := n2_; have HO275 := n3_; have HO280 := n4_; have HO283 := n5_; have HO286 := n6_; have HO289 := n7_; have BK277 := n8_; have BK291 := n9_; have HB := n10_; clear n0_ n1_ n2_ n3_ n4_ n5_ n6_ n7_ n8_ n9_ n10_; (try clear hb); (try clear hb2); (try clear hk); (try clear hi)))
    go_meet
    case rel => exact ⟨_, (true), a242_, H', ⟨by first | omega | exact Nat.le_refl _⟩, ⟨by (with_reducible repeat (first | apply Kd.R_alloc | apply Kd.R_drewN | apply Kd.R_drew)); exact Kd.R_mono HO280.out (fun _ hk => trivial)⟩, ⟨by (with_reducible repeat (first | apply Kd.R_alloc | apply Kd.R_drewN | apply Kd.R_drew)); exact Kd.R_mono HO269.out (fun _ hk => ⟨hk.1.1.1.1, ⟨hk.1.1.1.2, ⟨hk.1.1.2, ⟨hk.1.2, hk.2⟩⟩⟩⟩)⟩, ⟨by (with_reducible repeat (first | apply Kd.R_alloc | apply Kd.R_drewN | apply Kd.R_drew)); exact Kd.R_mono HO272.out (fun _ hk => ⟨hk.1.1.1.1, ⟨hk.1.1.1.2, ⟨hk.1.1.2, ⟨hk.1.2, hk.2⟩⟩⟩⟩)⟩, ⟨by (with_reducible repeat (first | apply Kd.R_alloc | apply Kd.R_drewN | apply Kd.R_drew)); exact Kd.R_mono HO275.out (fun _ hk => ⟨hk.1.1.1.1, ⟨hk.1.1.1.2, ⟨hk.1.1.2, ⟨hk.1.2, hk.2⟩⟩⟩⟩)⟩, ⟨by (with_reducible repeat (first | apply Kd.R_alloc | apply Kd.R_drewN | apply Kd.R_drew)); exact Kd.R_mono HO283.out (fun _ hk => ⟨hk.1.1.2, ⟨hk.1.2, ⟨hk.2, ⟨hk.1.1.1.1, hk.1.1.1.2⟩⟩⟩⟩)⟩, ⟨by (with_reducible repeat (first | apply Kd.R_alloc | apply Kd.R_drewN | apply Kd.R_drew)); exact Kd.R_mono HO286.out (fun _ hk => ⟨hk.1.1.2, ⟨hk.1.2, ⟨hk.2, ⟨hk.1.1.1.1, hk.1.1.1.2⟩⟩⟩⟩)⟩, ⟨by (with_reducible repeat (first | apply Kd.R_alloc | apply Kd.R_drewN | apply Kd.R_drew)); exact Kd.R_mono HO289.out (fun _ hk => ⟨hk.1.1.2, ⟨hk.1.2, ⟨hk.2, ⟨hk.1.1.1.1, hk.1.1.1.2⟩⟩⟩⟩)⟩, ⟨by (with_reducible repeat (first | refine blk_drewN ?_ _ | refine blk_drew ?_ | refine blk_alloc ?_ _)); exact BK277.out⟩, ⟨by (with_reducible repeat (first | refine blk_drewN ?_ _ | refine blk_drew ?_ | refine blk_alloc ?_ _)); exact BK291.out⟩, ⟨by repeat (first | (with_reducible first | exact HB.out | apply below_alloc | apply pw_below_drewN | apply below_drew1 | refine below_set ?_ GE277.out | refine below_set ?_ GE291.out) | exact HB.out)⟩⟩
  case rest =>
   clear HC9
   try clear c1
   try clear c2
   try clear p2
   try clear c3
   try clear c4
   try clear c4b0
   try clear c5
   try clear c11
   try clear c19
   try clear c23
   try clear c28
   try clear c29
   try clear c33
   try clear hcz15_0
   try clear hcz15_1
   try clear hcz15_2
   try clear hcz24_0
   try clear hcz24_1
   try clear hcz24_2
   try clear hcz30_0
   try clear hcz30_1
   try clear hcz30_2
   try clear hcz31_0
   try clear hcz31_1
   try clear hcz31_2
   try clear hcz34_0
   try clear hcz34_1
   try clear hcz34_2
   try clear hcz35_0
   try clear hcz35_1
   try clear hcz35_2
   try clear hfz15_0
   try clear hfz15_1
   try clear hfz15_2
   try clear hfz24_0
   try clear hfz24_1
   try clear hfz24_2
   try clear hfz30_0
   try clear hfz30_1
   try clear hfz30_2
   try clear hfz31_0
   try clear hfz31_1
   try clear hfz31_2
   try clear hfz34_0
   try clear hfz34_1
   try clear hfz34_2
   try clear hfz35_0
   try clear hfz35_1
   try clear hfz35_2
   obtain ⟨kq, x44_8, rfl, HA, HJ8, HO_8, HO_278000, HO_278001, HO_278002, HO_292000, HO_292001, HO_292002, BK277, BK291, HB⟩ := hcut
   cases kq with
   | zero => exact absurd HA.out (by simp [laws_FnExactMachineFor.j0])
   | succ kj8 =>
    have H := HA.out
    clear HA
    simp only [laws_FnExactMachineFor.j0] at H
    by_cases c37 : x44_8 = true
    ·subst c37
     have H1 : (some false) = some r := by rw [if_pos rfl] at H; exact H
     clear H
     have H := H1
     clear H1
     obtain rfl := Option.some.inj H
     go_wp2
     go_ret
     exact ⟨by first | rfl | (simp [errW_none, errW_some] <;> rfl) | (simp [*, errW_none, errW_some] <;> rfl), by repeat (first | (with_reducible first | exact HB.out | apply below_alloc | apply pw_below_drewN | apply below_drew1 | refine below_set ?_ GE277.out | refine below_set ?_ GE291.out) | exact HB.out)⟩
    ·replace c37 := Bool.eq_false_iff.mpr c37
     subst c37
     have H1 : ((laws_toStopS.f kj8 l0).bind fun t293 => ((laws_eqStopS.f kj8 t278 t293).bind fun t296 => (if t296 = true then ((laws_markStopS.f kj8 t278 1).bind fun bt297 => (if bt297.1 < 0 then (laws_FnExactMachineFor.j1 kj8 l0 a1 t276 true t267 t270 t273 t281 t284 t287) else ((laws_eqMachine.f kj8 t281 t284 t287 t267 t270 t273).bind fun t299 => (if t299 = true then (laws_FnExactMachineFor.j1 kj8 l0 a1 t276 (t290 != t276) t267 t270 t273 t281 t284 t287) else (laws_FnExactMachineFor.j1 kj8 l0 a1 t276 true t267 t270 t273 t281 t284 t287))))) else (some false)))) = some r := by rw [if_neg (show ¬ (false = true) by decide)] at H; exact H
     clear H
     have H := H1
     clear H1
     replace H := Option.bind_eq_some_iff.mp H
     obtain ⟨t293, A380, H⟩ := H
     replace H : ((laws_eqStopS.f kj8 t278 t293).bind fun t296 => (if t296 = true then ((laws_markStopS.f kj8 t278 1).bind fun bt297 => (if bt297.1 < 0 then (laws_FnExactMachineFor.j1 kj8 l0 a1 t276 true t267 t270 t273 t281 t284 t287) else ((laws_eqMachine.f kj8 t281 t284 t287 t267 t270 t273).bind fun t299 => (if t299 = true then (laws_FnExactMachineFor.j1 kj8 l0 a1 t276 (t290 != t276) t267 t270 t273 t281 t284 t287) else (laws_FnExactMachineFor.j1 kj8 l0 a1 t276 true t267 t270 t273 t281 t284 t287))))) else (some false))) = some r := H
     have A38 := Aside0.mk A380
     clear A380
     replace H := Option.bind_eq_some_iff.mp H
     obtain ⟨t296, A390, H⟩ := H
     replace H : (if t296 = true then ((laws_markStopS.f kj8 t278 1).bind fun bt297 => (if bt297.1 < 0 then (laws_FnExactMachineFor.j1 kj8 l0 a1 t276 true t267 t270 t273 t281 t284 t287) else ((laws_eqMachine.f kj8 t281 t284 t287 t267 t270 t273).bind fun t299 => (if t299 = true then (laws_FnExactMachineFor.j1 kj8 l0 a1 t276 (t290 != t276) t267 t270 t273 t281 t284 t287) else (laws_FnExactMachineFor.j1 kj8 l0 a1 t276 true t267 t270 t273 t281 t284 t287))))) else (some false)) = some r := H
     have A39 := Aside0.mk A390
     clear A390
     by_cases c40 : t296 = true
     ·subst c40
      have H1 : ((laws_markStopS.f kj8 t278 1).bind fun bt297 => (if bt297.1 < 0 then (laws_FnExactMachineFor.j1 kj8 l0 a1 t276 true t267 t270 t273 t281 t284 t287) else ((laws_eqMachine.f kj8 t281 t284 t287 t267 t270 t273).bind fun t299 => (if t299 = true then (laws_FnExactMachineFor.j1 kj8 l0 a1 t276 (t290 != t276) t267 t270 t273 t281 t284 t287) else (laws_FnExactMachineFor.j1 kj8 l0 a1 t276 true t267 t270 t273 t281 t284 t287))))) = some r := by rw [if_pos rfl] at H; exact H
      clear H
      have H := H1
      clear H1
      replace H := Option.bind_eq_some_iff.mp H
      obtain ⟨⟨t297, t298⟩, A410, H⟩ := H
      replace H : (if t297 < 0 then (laws_FnExactMachineFor.j1 kj8 l0 a1 t276 true t267 t270 t273 t281 t284 t287) else ((laws_eqMachine.f kj8 t281 t284 t287 t267 t270 t273).bind fun t299 => (if t299 = true then (laws_FnExactMachineFor.j1 kj8 l0 a1 t276 (t290 != t276) t267 t270 t273 t281 t284 t287) else (laws_FnExactMachineFor.j1 kj8 l0 a1 t276 true t267 t270 t273 t281 t284 t287)))) = some r := H
      have A41 := Aside0.mk A410
      clear A410
      have HC42 := Aside0.mk H
      clear H
      go_upto_region 14 with (first | ((with_reducible refine gate_callee (f := 53) rfl ?_); refine goesL_ (some 47) rfl rfl Try.func53 (by kernel_rfl) rfl #[.slice A0 l0.length c0] rfl a195_ ?_; (with_reducible refine (laws_toStopS.calls kj8 _ _ l0 t293 _ ?side1 ?side2 A38.out).mono ?_); (case side1 => exact a263_); (case side2 => exact HC0.out); rintro e w43 ⟨v294, rfl, ho0, hb⟩; refine ⟨_, rfl, ?_⟩; have n0_ := Aside0.mk (Kd.R_elder' a232_ (Kd.R_base ho0) hb); have n1_ := Aside0.mk (Kd.R_below a198_ hb); have n2_ := Aside0.mk (Kd.R_below a199_ hb); have n3_ := Aside0.mk (Kd.R_below a200_ hb); have n4_ := Aside0.mk (Kd.R_below a201_ hb); have n5_ := Aside0.mk (Kd.R_below a202_ hb); have n6_ := Aside0.mk (Kd.R_below a203_ hb); have n7_ := Aside0.mk (Kd.R_lower (Kd.R_new' ho0 (Kd.R_lt a232_)) (below_size a194_)); have n8_ := Aside0.mk (blk_below (g := gb277) a196_ hb); have n9_ := Aside0.mk (blk_below (g := gb291) a197_ hb); have n10_ := Aside0.mk (below_step a194_ hb); clear HO_8; clear HO_278000; clear HO_278001; clear HO_278002; clear HO_292000; clear HO_292001; clear HO_292002; clear BK277; clear BK291; clear HB; have HO_8 := n0_; have HO_278000 := n1_; have HO_278001 := n2_; have HO_278002 := n3_; have HO_292000 := n4_; have HO_292001 := n5_; have HO_292002 := n6_; have HO295 := n7_; have BK277 := n8_; have BK291 := n9_; have HB := n10_; clear n0_ n1_ n2_ n3_ n4_ n5_ n6_ n7_ n8_ n9_ n10_; (try clear hb); (try clear hb2); (try clear hk); (try clear hi); (try clear ho0); obtain ⟨Ao44, co44, eo44⟩ := Kd.R_slice HO295.out; subst eo44) | ((with_reducible refine gate_callee (f := 55) rfl ?_); refine goesL_ (some 48) rfl rfl Try.func55 (by kernel_rfl) rfl #[.slice Ao19 t278.length co19, .slice Ao44 t293.length co44] rfl a195_ ?_; (with_reducible refine (laws_eqStopS.calls kj8 _ _ t278 _ _ t293 true _ ?side1 ?side2 ?side3 ?side4 A39.out).mono ?_); (case side1 => exact a269_); (case side2 => exact (Kd.R_reads' HO_8.out).2.1); (case side3 => exact a268_); (case side4 => exact (Kd.R_reads' HO295.out).2.1); rintro e w45 ⟨rfl, hb⟩; refine ⟨_, rfl, ?_⟩; have n0_ := Aside0.mk (Kd.R_below a232_ hb); have n1_ := Aside0.mk (Kd.R_below a198_ hb); have n2_ := Aside0.mk (Kd.R_below a199_ hb); have n3_ := Aside0.mk (Kd.R_below a200_ hb); have n4_ := Aside0.mk (Kd.R_below a201_ hb); have n5_ := Aside0.mk (Kd.R_below a202_ hb); have n6_ := Aside0.mk (Kd.R_below a203_ hb); have n7_ := Aside0.mk (Kd.R_below a237_ hb); have n8_ := Aside0.mk (blk_below (g := gb277) a196_ hb); have n9_ := Aside0.mk (blk_below (g := gb291) a197_ hb); have n10_ := Aside0.mk (below_step a194_ hb); clear HO_8; clear HO_278000; clear HO_278001; clear HO_278002; clear HO_292000; clear HO_292001; clear HO_292002; clear HO295; clear BK277; clear BK291; clear HB; have HO_8 := n0_; have HO_278000 := n1_; have HO_278001 := n2_; have HO_278002 := n3_; have HO_292000 := n4_; have HO_292001 := n5_; have HO_292002 := n6_; have HO295 := n7_; have BK277 := n8_; have BK291 := n9_; have HB := n10_; clear n0_ n1_ n2_ n3_ n4_ n5_ n6_ n7_ n8_ n9_ n10_; (try clear hb); (try clear hb2); (try clear hk); (try clear hi)) | ((with_reducible refine gate_callee (f := 56) rfl ?_); refine goesL_ (some 52) rfl rfl Try.func56 (by kernel_rfl) rfl #[.slice Ao19 t278.length co19, .int .i64 1] rfl a195_ ?_; (with_reducible refine (laws_markStopS.calls kj8 (fun k_ => some k_ = (.slice Ao19 t278.length co19 : Value).ownBlock) (.slice Ao19 t278.length co19) t278 1 t297 t298 w _ ?side1 ?side2 A41.out).mono ?_); (case side1 => exact a250_); (case side2 => exact Kd.R_tight rfl HO_8.out); rintro e w46 ⟨rfl, hy0, hb, hkp⟩; refine ⟨_, rfl, ?_⟩; have n0_ := Aside0.mk (Kd.R_reok rfl hy0 (fun k_ e_ => HO_8.out.1 k_ e_)); have n1_ := Aside0.mk (Kd.R_mono (ok' := fun k_ => nbk k_ Ao16 t270.length co16 ∧ nbk k_ Ao17 t273.length co17 ∧ nbk k_ Ao22 t281.length co22 ∧ nbk k_ Ao25 t284.length co25 ∧ nbk k_ Ao26 t287.length co26) (Kd.R_keptB ((Kd.R_apart' HO_278000.out (Kd.R_typed HO_8.out) (by decide))) hkp (fun k_ hk_ hs_ => (hk_.2) hs_)) (fun k_ hk_ => ⟨hk_.1.1.1, hk_.1.1.2.1, hk_.1.1.2.2.1, hk_.1.1.2.2.2.1, hk_.1.1.2.2.2.2⟩)); have n2_ := Aside0.mk (Kd.R_mono (ok' := fun k_ => nbk k_ Ao14 t267.length co14 ∧ nbk k_ Ao17 t273.length co17 ∧ nbk k_ Ao22 t281.length co22 ∧ nbk k_ Ao25 t284.length co25 ∧ nbk k_ Ao26 t287.length co26) (Kd.R_keptB ((Kd.R_apart' HO_278001.out (Kd.R_typed HO_8.out) (by decide))) hkp (fun k_ hk_ hs_ => (hk_.2) hs_)) (fun k_ hk_ => ⟨hk_.1.1.1, hk_.1.1.2.1, hk_.1.1.2.2.1, hk_.1.1.2.2.2.1, hk_.1.1.2.2.2.2⟩)); have n3_ := Aside0.mk (Kd.R_mono (ok' := fun k_ => nbk k_ Ao14 t267.length co14 ∧ nbk k_ Ao16 t270.length co16 ∧ nbk k_ Ao22 t281.length co22 ∧ nbk k_ Ao25 t284.length co25 ∧ nbk k_ Ao26 t287.length co26) (Kd.R_keptB ((Kd.R_apart' HO_278002.out (Kd.R_typed HO_8.out) (by decide))) hkp (fun k_ hk_ hs_ => (hk_.2) hs_)) (fun k_ hk_ => ⟨hk_.1.1.1, hk_.1.1.2.1, hk_.1.1.2.2.1, hk_.1.1.2.2.2.1, hk_.1.1.2.2.2.2⟩)); have n4_ := Aside0.mk (Kd.R_mono (ok' := fun k_ => nbk k_ Ao14 t267.length co14 ∧ nbk k_ Ao16 t270.length co16 ∧ nbk k_ Ao17 t273.length co17 ∧ nbk k_ Ao25 t284.length co25 ∧ nbk k_ Ao26 t287.length co26) (Kd.R_keptB ((Kd.R_apart' HO_292000.out (Kd.R_typed HO_8.out) (by decide))) hkp (fun k_ hk_ hs_ => (hk_.2) hs_)) (fun k_ hk_ => ⟨hk_.1.1.1, hk_.1.1.2.1, hk_.1.1.2.2.1, hk_.1.1.2.2.2.1, hk_.1.1.2.2.2.2⟩)); have n5_ := Aside0.mk (Kd.R_mono (ok' := fun k_ => nbk k_ Ao14 t267.length co14 ∧ nbk k_ Ao16 t270.length co16 ∧ nbk k_ Ao17 t273.length co17 ∧ nbk k_ Ao22 t281.length co22 ∧ nbk k_ Ao26 t287.length co26) (Kd.R_keptB ((Kd.R_apart' HO_292001.out (Kd.R_typed HO_8.out) (by decide))) hkp (fun k_ hk_ hs_ => (hk_.2) hs_)) (fun k_ hk_ => ⟨hk_.1.1.1, hk_.1.1.2.1, hk_.1.1.2.2.1, hk_.1.1.2.2.2.1, hk_.1.1.2.2.2.2⟩)); have n6_ := Aside0.mk (Kd.R_mono (ok' := fun k_ => nbk k_ Ao14 t267.length co14 ∧ nbk k_ Ao16 t270.length co16 ∧ nbk k_ Ao17 t273.length co17 ∧ nbk k_ Ao22 t281.length co22 ∧ nbk k_ Ao25 t284.length co25) (Kd.R_keptB ((Kd.R_apart' HO_292002.out (Kd.R_typed HO_8.out) (by decide))) hkp (fun k_ hk_ hs_ => (hk_.2) hs_)) (fun k_ hk_ => ⟨hk_.1.1.1, hk_.1.1.2.1, hk_.1.1.2.2.1, hk_.1.1.2.2.2.1, hk_.1.1.2.2.2.2⟩)); have n7_ := Aside0.mk (blk_kept a196_ hkp (fun hs_ => (fun e_ => (Kd.R_ne HO_8.out BK277.out (by decide)) e_) hs_)); have n8_ := Aside0.mk (blk_kept a197_ hkp (fun hs_ => (fun e_ => (Kd.R_ne HO_8.out BK291.out (by decide)) e_) hs_)); have n9_ := Aside0.mk (Kd.R_mono (ok' := fun k_ => nbk k_ Ao19 t278.length co19) (Kd.R_keptB (HO295.out) hkp (fun k_ hk_ hs_ => (hk_.2) hs_)) (fun k_ hk_ => hk_.1.2)); have n10_ := Aside0.mk (hb); clear HO_8; clear HO_278000; clear HO_278001; clear HO_278002; clear HO_292000; clear HO_292001; clear HO_292002; clear BK277; clear BK291; clear HO295; clear HB; have HO_8 := n0_; have HO_278000 := n1_; have HO_278001 := n2_; have HO_278002 := n3_; have HO_292000 := n4_; have HO_292001 := n5_; have HO_292002 := n6_; have BK277 := n7_; have BK291 := n8_; have HO295 := n9_; have HB := n10_; clear n0_ n1_ n2_ n3_ n4_ n5_ n6_ n7_ n8_ n9_ n10_; (try clear hb); (try clear hkp); (try clear hy0)))
      (try simp only [Act.put, List.setIfInBounds_toArray, List.set_cons_zero, List.set_cons_succ])
      go_cut [65] (fun v65 wc => ∃ (kq : Nat) (x65_41 : Bool), v65 = .bool x65_41 ∧ Aside0 (laws_FnExactMachineFor.j1 kq l0 a1 t276 x65_41 t267 t270 t273 t281 t284 t287 = some r) ∧ Aside0 (kq ≤ kj8) ∧ Aside0 (Kd.R (Kd.int .i16) 38 wc w.heap.size (fun k_ => some k_ ≠ ((.slice Ao16 t270.length co16) : Value).ownBlock ∧ some k_ ≠ ((.slice Ao17 t273.length co17) : Value).ownBlock ∧ some k_ ≠ ((.slice Ao22 t281.length co22) : Value).ownBlock ∧ some k_ ≠ ((.slice Ao25 t284.length co25) : Value).ownBlock ∧ some k_ ≠ ((.slice Ao26 t287.length co26) : Value).ownBlock) (.slice Ao14 t267.length co14) t267) ∧ Aside0 (Kd.R (Kd.int .i16) 38 wc w.heap.size (fun k_ => some k_ ≠ ((.slice Ao14 t267.length co14) : Value).ownBlock ∧ some k_ ≠ ((.slice Ao17 t273.length co17) : Value).ownBlock ∧ some k_ ≠ ((.slice Ao22 t281.length co22) : Value).ownBlock ∧ some k_ ≠ ((.slice Ao25 t284.length co25) : Value).ownBlock ∧ some k_ ≠ ((.slice Ao26 t287.length co26) : Value).ownBlock) (.slice Ao16 t270.length co16) t270) ∧ Aside0 (Kd.R (Kd.int .i16) 38 wc w.heap.size (fun k_ => some k_ ≠ ((.slice Ao14 t267.length co14) : Value).ownBlock ∧ some k_ ≠ ((.slice Ao16 t270.length co16) : Value).ownBlock ∧ some k_ ≠ ((.slice Ao22 t281.length co22) : Value).ownBlock ∧ some k_ ≠ ((.slice Ao25 t284.length co25) : Value).ownBlock ∧ some k_ ≠ ((.slice Ao26 t287.length co26) : Value).ownBlock) (.slice Ao17 t273.length co17) t273) ∧ Aside0 (Kd.R (Kd.int .i16) 38 wc w.heap.size (fun k_ => some k_ ≠ ((.slice Ao14 t267.length co14) : Value).ownBlock ∧ some k_ ≠ ((.slice Ao16 t270.length co16) : Value).ownBlock ∧ some k_ ≠ ((.slice Ao17 t273.length co17) : Value).ownBlock ∧ some k_ ≠ ((.slice Ao25 t284.length co25) : Value).ownBlock ∧ some k_ ≠ ((.slice Ao26 t287.length co26) : Value).ownBlock) (.slice Ao22 t281.length co22) t281) ∧ Aside0 (Kd.R (Kd.int .i16) 38 wc w.heap.size (fun k_ => some k_ ≠ ((.slice Ao14 t267.length co14) : Value).ownBlock ∧ some k_ ≠ ((.slice Ao16 t270.length co16) : Value).ownBlock ∧ some k_ ≠ ((.slice Ao17 t273.length co17) : Value).ownBlock ∧ some k_ ≠ ((.slice Ao22 t281.length co22) : Value).ownBlock ∧ some k_ ≠ ((.slice Ao26 t287.length co26) : Value).ownBlock) (.slice Ao25 t284.length co25) t284) ∧ Aside0 (Kd.R (Kd.int .i16) 38 wc w.heap.size (fun k_ => some k_ ≠ ((.slice Ao14 t267.length co14) : Value).ownBlock ∧ some k_ ≠ ((.slice Ao16 t270.length co16) : Value).ownBlock ∧ some k_ ≠ ((.slice Ao17 t273.length co17) : Value).ownBlock ∧ some k_ ≠ ((.slice Ao22 t281.length co22) : Value).ownBlock ∧ some k_ ≠ ((.slice Ao25 t284.length co25) : Value).ownBlock) (.slice Ao26 t287.length co26) t287) ∧ Aside0 (wc.heap[gb277]? = some (.cells #[(.slice Ao14 t267.length co14), (.slice Ao16 t270.length co16), (.slice Ao17 t273.length co17)] 29 (0, 0))) ∧ Aside0 (wc.heap[gb291]? = some (.cells #[(.slice Ao22 t281.length co22), (.slice Ao25 t284.length co25), (.slice Ao26 t287.length co26)] 29 (0, 0))) ∧ Aside0 (Below w.heap.size w wc))
      case first =>
       have H := HC42.out
       clear HC42
       by_cases c47 : t297 < 0
       ·rw [if_pos c47] at H
        have c47b0 : decide (t297 < 0) = true := decide_eq_true c47
        clear c47
        (first | rw [c47b0] | (simp only [i64_w, i32_w]; rw [c47b0]) | skip)
        have H' := Aside0.mk H
        clear H
        go_wp2
        go_meet
        case rel => exact ⟨_, (true), a242_, H', ⟨by have := HJ8.out; first | omega | exact Nat.le_refl _⟩, ⟨by (with_reducible repeat (first | apply Kd.R_alloc | apply Kd.R_drewN | apply Kd.R_drew)); exact HO_278000.out⟩, ⟨by (with_reducible repeat (first | apply Kd.R_alloc | apply Kd.R_drewN | apply Kd.R_drew)); exact HO_278001.out⟩, ⟨by (with_reducible repeat (first | apply Kd.R_alloc | apply Kd.R_drewN | apply Kd.R_drew)); exact HO_278002.out⟩, ⟨by (with_reducible repeat (first | apply Kd.R_alloc | apply Kd.R_drewN | apply Kd.R_drew)); exact HO_292000.out⟩, ⟨by (with_reducible repeat (first | apply Kd.R_alloc | apply Kd.R_drewN | apply Kd.R_drew)); exact HO_292001.out⟩, ⟨by (with_reducible repeat (first | apply Kd.R_alloc | apply Kd.R_drewN | apply Kd.R_drew)); exact HO_292002.out⟩, ⟨by (with_reducible repeat (first | refine blk_drewN ?_ _ | refine blk_drew ?_ | refine blk_alloc ?_ _)); exact BK277.out⟩, ⟨by (with_reducible repeat (first | refine blk_drewN ?_ _ | refine blk_drew ?_ | refine blk_alloc ?_ _)); exact BK291.out⟩, ⟨by repeat (first | (with_reducible first | exact HB.out | apply below_alloc | apply pw_below_drewN | apply below_drew1 | refine below_set ?_ GE277.out | refine below_set ?_ GE291.out) | exact HB.out)⟩⟩
       ·rw [if_neg c47] at H
        have c47b0 : decide (t297 < 0) = false := decide_eq_false c47
        clear c47
        (first | rw [c47b0] | (simp only [i64_w, i32_w]; rw [c47b0]) | skip)
        replace H := Option.bind_eq_some_iff.mp H
        obtain ⟨t299, A480, H⟩ := H
        replace H : (if t299 = true then (laws_FnExactMachineFor.j1 kj8 l0 a1 t276 (t290 != t276) t267 t270 t273 t281 t284 t287) else (laws_FnExactMachineFor.j1 kj8 l0 a1 t276 true t267 t270 t273 t281 t284 t287)) = some r := H
        have A48 := Aside0.mk A480
        clear A480
        by_cases c49 : t299 = true
        ·subst c49
         have H1 : (laws_FnExactMachineFor.j1 kj8 l0 a1 t276 (t290 != t276) t267 t270 t273 t281 t284 t287) = some r := by rw [if_pos rfl] at H; exact H
         clear H
         have H := H1
         clear H1
         have H' := Aside0.mk H
         clear H
         have hnb50 := NB291_277.out
         have hnc50 := NB277_291.out
         have hcz51_0 : w46.cell? ⟨gb291, 0, none⟩ = some (.slice Ao22 t281.length co22) := (blk_cell BK291.out 0).trans rfl
         have hcz51_1 : w46.cell? ⟨gb291, 1, none⟩ = some (.slice Ao25 t284.length co25) := (blk_cell BK291.out 1).trans rfl
         have hcz51_2 : w46.cell? ⟨gb291, 2, none⟩ = some (.slice Ao26 t287.length co26) := (blk_cell BK291.out 2).trans rfl
         have hfz51_0 := blk_frozen BK291.out 0
         have hfz51_1 := blk_frozen BK291.out 1
         have hfz51_2 := blk_frozen BK291.out 2
         have hcz52_0 : w46.cell? ⟨gb277, 0, none⟩ = some (.slice Ao14 t267.length co14) := (blk_cell BK277.out 0).trans rfl
         have hcz52_1 : w46.cell? ⟨gb277, 1, none⟩ = some (.slice Ao16 t270.length co16) := (blk_cell BK277.out 1).trans rfl
         have hcz52_2 : w46.cell? ⟨gb277, 2, none⟩ = some (.slice Ao17 t273.length co17) := (blk_cell BK277.out 2).trans rfl
         have hfz52_0 := blk_frozen BK277.out 0
         have hfz52_1 := blk_frozen BK277.out 1
         have hfz52_2 := blk_frozen BK277.out 2
         go_wp2_with (first | (go_at_call 19; (with_reducible refine (laws_eqMachine.calls kj8 _ _ t281 _ _ t284 _ _ t287 _ _ t267 _ _ t270 _ _ t273 true _ ?side1 ?side2 ?side3 ?side4 ?side5 ?side6 ?side7 ?side8 ?side9 ?side10 ?side11 ?side12 A48.out).mono ?_); (case side1 => exact a247_); (case side2 => exact (Kd.R_reads' HO_292000.out).2.1); (case side3 => exact a248_); (case side4 => exact (Kd.R_reads' HO_292001.out).2.1); (case side5 => exact a249_); (case side6 => exact (Kd.R_reads' HO_292002.out).2.1); (case side7 => exact a265_); (case side8 => exact (Kd.R_reads' HO_278000.out).2.1); (case side9 => exact a266_); (case side10 => exact (Kd.R_reads' HO_278001.out).2.1); (case side11 => exact a267_); (case side12 => exact (Kd.R_reads' HO_278002.out).2.1); rintro e w53 ⟨rfl, hb⟩; have n0_ := Aside0.mk (Kd.R_below a232_ hb); have n1_ := Aside0.mk (Kd.R_below a198_ hb); have n2_ := Aside0.mk (Kd.R_below a199_ hb); have n3_ := Aside0.mk (Kd.R_below a200_ hb); have n4_ := Aside0.mk (Kd.R_below a201_ hb); have n5_ := Aside0.mk (Kd.R_below a202_ hb); have n6_ := Aside0.mk (Kd.R_below a203_ hb); have n7_ := Aside0.mk (Kd.R_below a237_ hb); have n8_ := Aside0.mk (blk_below (g := gb277) a196_ hb); have n9_ := Aside0.mk (blk_below (g := gb291) a197_ hb); have n10_ := Aside0.mk (below_step a194_ hb); clear HO_8; clear HO_278000; clear HO_278001; clear HO_278002; clear HO_292000; clear HO_292001; clear HO_292002; clear HO295; clear BK277; clear BK291; clear HB; have HO_8 := n0_; have HO_278000 := n1_; have HO_278001 := n2_; have HO_278002 := n3_; have HO_292000 := n4_; have HO_292001 := n5_; have HO_292002 := n6_; have HO295 := n7_; have BK277 := n8_; have BK291 := n9_; have HB := n10_; clear n0_ n1_ n2_ n3_ n4_ n5_ n6_ n7_ n8_ n9_ n10_; (try clear hb); (try clear hb2); (try clear hk); (try clear hi)))
         go_meet
         case rel => exact ⟨_, ((t290 != t276)), a242_, H', ⟨by have := HJ8.out; first | omega | exact Nat.le_refl _⟩, ⟨by (with_reducible repeat (first | apply Kd.R_alloc | apply Kd.R_drewN | apply Kd.R_drew)); exact HO_278000.out⟩, ⟨by (with_reducible repeat (first | apply Kd.R_alloc | apply Kd.R_drewN | apply Kd.R_drew)); exact HO_278001.out⟩, ⟨by (with_reducible repeat (first | apply Kd.R_alloc | apply Kd.R_drewN | apply Kd.R_drew)); exact HO_278002.out⟩, ⟨by (with_reducible repeat (first | apply Kd.R_alloc | apply Kd.R_drewN | apply Kd.R_drew)); exact HO_292000.out⟩, ⟨by (with_reducible repeat (first | apply Kd.R_alloc | apply Kd.R_drewN | apply Kd.R_drew)); exact HO_292001.out⟩, ⟨by (with_reducible repeat (first | apply Kd.R_alloc | apply Kd.R_drewN | apply Kd.R_drew)); exact HO_292002.out⟩, ⟨by (with_reducible repeat (first | refine blk_drewN ?_ _ | refine blk_drew ?_ | refine blk_alloc ?_ _)); exact BK277.out⟩, ⟨by (with_reducible repeat (first | refine blk_drewN ?_ _ | refine blk_drew ?_ | refine blk_alloc ?_ _)); exact BK291.out⟩, ⟨by repeat (first | (with_reducible first | exact HB.out | apply below_alloc | apply pw_below_drewN | apply below_drew1 | refine below_set ?_ GE277.out | refine below_set ?_ GE291.out) | exact HB.out)⟩⟩
        ·replace c49 := Bool.eq_false_iff.mpr c49
         subst c49
         have H1 : (laws_FnExactMachineFor.j1 kj8 l0 a1 t276 true t267 t270 t273 t281 t284 t287) = some r := by rw [if_neg (show ¬ (false = true) by decide)] at H; exact H
         clear H
         have H := H1
         clear H1
         have H' := Aside0.mk H
         clear H
         have hnb54 := NB291_277.out
         have hnc54 := NB277_291.out
         have hcz55_0 : w46.cell? ⟨gb291, 0, none⟩ = some (.slice Ao22 t281.length co22) := (blk_cell BK291.out 0).trans rfl
         have hcz55_1 : w46.cell? ⟨gb291, 1, none⟩ = some (.slice Ao25 t284.length co25) := (blk_cell BK291.out 1).trans rfl
         have hcz55_2 : w46.cell? ⟨gb291, 2, none⟩ = some (.slice Ao26 t287.length co26) := (blk_cell BK291.out 2).trans rfl
         have hfz55_0 := blk_frozen BK291.out 0
         have hfz55_1 := blk_frozen BK291.out 1
         have hfz55_2 := blk_frozen BK291.out 2
         have hcz56_0 : w46.cell? ⟨gb277, 0, none⟩ = some (.slice Ao14 t267.length co14) := (blk_cell BK277.out 0).trans rfl
         have hcz56_1 : w46.cell? ⟨gb277, 1, none⟩ = some (.slice Ao16 t270.length co16) := (blk_cell BK277.out 1).trans rfl
         have hcz56_2 : w46.cell? ⟨gb277, 2, none⟩ = some (.slice Ao17 t273.length co17) := (blk_cell BK277.out 2).trans rfl
         have hfz56_0 := blk_frozen BK277.out 0
         have hfz56_1 := blk_frozen BK277.out 1
         have hfz56_2 := blk_frozen BK277.out 2
         go_wp2_with (first | (go_at_call 19; (with_reducible refine (laws_eqMachine.calls kj8 _ _ t281 _ _ t284 _ _ t287 _ _ t267 _ _ t270 _ _ t273 false _ ?side1 ?side2 ?side3 ?side4 ?side5 ?side6 ?side7 ?side8 ?side9 ?side10 ?side11 ?side12 A48.out).mono ?_); (case side1 => exact a247_); (case side2 => exact (Kd.R_reads' HO_292000.out).2.1); (case side3 => exact a248_); (case side4 => exact (Kd.R_reads' HO_292001.out).2.1); (case side5 => exact a249_); (case side6 => exact (Kd.R_reads' HO_292002.out).2.1); (case side7 => exact a265_); (case side8 => exact (Kd.R_reads' HO_278000.out).2.1); (case side9 => exact a266_); (case side10 => exact (Kd.R_reads' HO_278001.out).2.1); (case side11 => exact a267_); (case side12 => exact (Kd.R_reads' HO_278002.out).2.1); rintro e w57 ⟨rfl, hb⟩; have n0_ := Aside0.mk (Kd.R_below a232_ hb); have n1_ := Aside0.mk (Kd.R_below a198_ hb); have n2_ := Aside0.mk (Kd.R_below a199_ hb); have n3_ := Aside0.mk (Kd.R_below a200_ hb); have n4_ := Aside0.mk (Kd.R_below a201_ hb); have n5_ := Aside0.mk (Kd.R_below a202_ hb); have n6_ := Aside0.mk (Kd.R_below a203_ hb); have n7_ := Aside0.mk (Kd.R_below a237_ hb); have n8_ := Aside0.mk (blk_below (g := gb277) a196_ hb); have n9_ := Aside0.mk (blk_below (g := gb291) a197_ hb); have n10_ := Aside0.mk (below_step a194_ hb); clear HO_8; clear HO_278000; clear HO_278001; clear HO_278002; clear HO_292000; clear HO_292001; clear HO_292002; clear HO295; clear BK277; clear BK291; clear HB; have HO_8 := n0_; have HO_278000 := n1_; have HO_278001 := n2_; have HO_278002 := n3_; have HO_292000 := n4_; have HO_292001 := n5_; have HO_292002 := n6_; have HO295 := n7_; have BK277 := n8_; have BK291 := n9_; have HB := n10_; clear n0_ n1_ n2_ n3_ n4_ n5_ n6_ n7_ n8_ n9_ n10_; (try clear hb); (try clear hb2); (try clear hk); (try clear hi)))
         go_meet
         case rel => exact ⟨_, (true), a242_, H', ⟨by have := HJ8.out; first | omega | exact Nat.le_refl _⟩, ⟨by (with_reducible repeat (first | apply Kd.R_alloc | apply Kd.R_drewN | apply Kd.R_drew)); exact HO_278000.out⟩, ⟨by (with_reducible repeat (first | apply Kd.R_alloc | apply Kd.R_drewN | apply Kd.R_drew)); exact HO_278001.out⟩, ⟨by (with_reducible repeat (first | apply Kd.R_alloc | apply Kd.R_drewN | apply Kd.R_drew)); exact HO_278002.out⟩, ⟨by (with_reducible repeat (first | apply Kd.R_alloc | apply Kd.R_drewN | apply Kd.R_drew)); exact HO_292000.out⟩, ⟨by (with_reducible repeat (first | apply Kd.R_alloc | apply Kd.R_drewN | apply Kd.R_drew)); exact HO_292001.out⟩, ⟨by (with_reducible repeat (first | apply Kd.R_alloc | apply Kd.R_drewN | apply Kd.R_drew)); exact HO_292002.out⟩, ⟨by (with_reducible repeat (first | refine blk_drewN ?_ _ | refine blk_drew ?_ | refine blk_alloc ?_ _)); exact BK277.out⟩, ⟨by (with_reducible repeat (first | refine blk_drewN ?_ _ | refine blk_drew ?_ | refine blk_alloc ?_ _)); exact BK291.out⟩, ⟨by repeat (first | (with_reducible first | exact HB.out | apply below_alloc | apply pw_below_drewN | apply below_drew1 | refine below_set ?_ GE277.out | refine below_set ?_ GE291.out) | exact HB.out)⟩⟩
      case rest =>
       clear HC42
       try clear c1
       try clear c2
       try clear p2
       try clear c3
       try clear c4
       try clear c4b0
       try clear c5
       try clear c11
       try clear c19
       try clear c23
       try clear c28
       try clear c29
       try clear c33
       try clear c37
       try clear c40
       try clear c47
       try clear c47b0
       try clear c49
       try clear c50
       try clear c51
       try clear c52
       try clear c53
       try clear c54
       try clear c55
       try clear c56
       try clear hcz15_0
       try clear hcz15_1
       try clear hcz15_2
       try clear hcz24_0
       try clear hcz24_1
       try clear hcz24_2
       try clear hcz30_0
       try clear hcz30_1
       try clear hcz30_2
       try clear hcz31_0
       try clear hcz31_1
       try clear hcz31_2
       try clear hcz34_0
       try clear hcz34_1
       try clear hcz34_2
       try clear hcz35_0
       try clear hcz35_1
       try clear hcz35_2
       try clear hcz51_0
       try clear hcz51_1
       try clear hcz51_2
       try clear hcz52_0
       try clear hcz52_1
       try clear hcz52_2
       try clear hcz55_0
       try clear hcz55_1
       try clear hcz55_2
       try clear hcz56_0
       try clear hcz56_1
       try clear hcz56_2
       try clear hfz15_0
       try clear hfz15_1
       try clear hfz15_2
       try clear hfz24_0
       try clear hfz24_1
       try clear hfz24_2
       try clear hfz30_0
       try clear hfz30_1
       try clear hfz30_2
       try clear hfz31_0
       try clear hfz31_1
       try clear hfz31_2
       try clear hfz34_0
       try clear hfz34_1
       try clear hfz34_2
       try clear hfz35_0
       try clear hfz35_1
       try clear hfz35_2
       try clear hfz51_0
       try clear hfz51_1
       try clear hfz51_2
       try clear hfz52_0
       try clear hfz52_1
       try clear hfz52_2
       try clear hfz55_0
       try clear hfz55_1
       try clear hfz55_2
       try clear hfz56_0
       try clear hfz56_1
       try clear hfz56_2
       try clear p2
       obtain ⟨kq, x65_41, rfl, HA, HJ41, HO_278000, HO_278001, HO_278002, HO_292000, HO_292001, HO_292002, BK277, BK291, HB⟩ := hcut
       cases kq with
       | zero => exact absurd HA.out (by simp [laws_FnExactMachineFor.j1])
       | succ kj41 =>
        have H := HA.out
        clear HA
        simp only [laws_FnExactMachineFor.j1] at H
        by_cases c58 : x65_41 = true
        ·subst c58
         have H1 : (some false) = some r := by rw [if_pos rfl] at H; exact H
         clear H
         have H := H1
         clear H1
         obtain rfl := Option.some.inj H
         go_wp2
         go_ret
         exact ⟨by first | rfl | (simp [errW_none, errW_some] <;> rfl) | (simp [*, errW_none, errW_some] <;> rfl), by repeat (first | (with_reducible first | exact HB.out | apply below_alloc | apply pw_below_drewN | apply below_drew1 | refine below_set ?_ GE277.out | refine below_set ?_ GE291.out) | exact HB.out)⟩
        ·replace c58 := Bool.eq_false_iff.mpr c58
         subst c58
         have H1 : ((laws_markMachine.f kj41 t281 t284 t287 1).bind fun bt300 => ((laws_heldMachine.f kj41 bt300.2.1 bt300.2.2.1 bt300.2.2.2 1).bind fun t304 => (if t304 < 0 then (some false) else (if t304 = bt300.1 then ((laws_toStopS.f kj41 l0).bind fun t305 => ((impl_MachineFor.f kj41 t305 a1).bind fun bt308 => ((laws_eqMachine.f kj41 bt308.1 bt308.2.1 bt308.2.2.1 t267 t270 t273).bind fun t319 => (if t319 = true then (laws_FnExactMachineFor.j2 kj41 bt300.1 (bt308.2.2.2 != t276) bt300.2.1 bt300.2.2.1 bt300.2.2.2) else (laws_FnExactMachineFor.j2 kj41 bt300.1 true bt300.2.1 bt300.2.2.1 bt300.2.2.2))))) else (some false))))) = some r := by rw [if_neg (show ¬ (false = true) by decide)] at H; exact H
         clear H
         have H := H1
         clear H1
         replace H := Option.bind_eq_some_iff.mp H
         obtain ⟨⟨t300, t301, t302, t303⟩, A590, H⟩ := H
         replace H : ((laws_heldMachine.f kj41 t301 t302 t303 1).bind fun t304 => (if t304 < 0 then (some false) else (if t304 = t300 then ((laws_toStopS.f kj41 l0).bind fun t305 => ((impl_MachineFor.f kj41 t305 a1).bind fun bt308 => ((laws_eqMachine.f kj41 bt308.1 bt308.2.1 bt308.2.2.1 t267 t270 t273).bind fun t319 => (if t319 = true then (laws_FnExactMachineFor.j2 kj41 t300 (bt308.2.2.2 != t276) t301 t302 t303) else (laws_FnExactMachineFor.j2 kj41 t300 true t301 t302 t303))))) else (some false)))) = some r := H
         have A59 := Aside0.mk A590
         clear A590
         replace H := Option.bind_eq_some_iff.mp H
         obtain ⟨t304, A600, H⟩ := H
         replace H : (if t304 < 0 then (some false) else (if t304 = t300 then ((laws_toStopS.f kj41 l0).bind fun t305 => ((impl_MachineFor.f kj41 t305 a1).bind fun bt308 => ((laws_eqMachine.f kj41 bt308.1 bt308.2.1 bt308.2.2.1 t267 t270 t273).bind fun t319 => (if t319 = true then (laws_FnExactMachineFor.j2 kj41 t300 (bt308.2.2.2 != t276) t301 t302 t303) else (laws_FnExactMachineFor.j2 kj41 t300 true t301 t302 t303))))) else (some false))) = some r := H
         have A60 := Aside0.mk A600
         clear A600
         by_cases c61 : t304 < 0
         ·rw [if_pos c61] at H
          have c61b0 : decide (t304 < 0) = true := decide_eq_true c61
          clear c61
          obtain rfl := Option.some.inj H
          have hnb62 := NB291_277.out
          have hnc62 := NB277_291.out
          have hcz63_0 : wc.cell? ⟨gb291, 0, none⟩ = some (.slice Ao22 t281.length co22) := (blk_cell BK291.out 0).trans rfl
          have hcz63_1 : wc.cell? ⟨gb291, 1, none⟩ = some (.slice Ao25 t284.length co25) := (blk_cell BK291.out 1).trans rfl
          have hcz63_2 : wc.cell? ⟨gb291, 2, none⟩ = some (.slice Ao26 t287.length co26) := (blk_cell BK291.out 2).trans rfl
          have hfz63_0 := blk_frozen BK291.out 0
          have hfz63_1 := blk_frozen BK291.out 1
          have hfz63_2 := blk_frozen BK291.out 2
          go_wp2_with (first | ((with_reducible refine gate_callee (f := 22) rfl ?_); refine goesL_ (some 68) rfl rfl Try.func22 (by kernel_rfl) rfl #[.agg #[.slice Ao22 t281.length co22, .slice Ao25 t284.length co25, .slice Ao26 t287.length co26], .int .i64 1] rfl a195_ ?_; (with_reducible refine (laws_markMachine.calls kj41 (fun k_ => some k_ = (.slice Ao22 t281.length co22 : Value).ownBlock) (.slice Ao22 t281.length co22) t281 (fun k_ => some k_ = (.slice Ao25 t284.length co25 : Value).ownBlock) (.slice Ao25 t284.length co25) t284 (fun k_ => some k_ = (.slice Ao26 t287.length co26 : Value).ownBlock) (.slice Ao26 t287.length co26) t287 1 t300 t301 t302 t303 w _ ?side1 ?side2 ?side3 ?side4 ?side5 ?side6 ?side7 ?side8 ?side9 ?side10 A59.out).mono ?_); (case side1 => exact a250_); (case side2 => exact Kd.R_tight rfl HO_292000.out); (case side3 => exact fun k_ e_ => (HO_292000.out.1 k_ e_.symm).2.2.2.1); (case side4 => exact fun k_ e_ => (HO_292000.out.1 k_ e_.symm).2.2.2.2); (case side5 => exact Kd.R_tight rfl HO_292001.out); (case side6 => exact fun k_ e_ => (HO_292001.out.1 k_ e_.symm).2.2.2.1); (case side7 => exact fun k_ e_ => (HO_292001.out.1 k_ e_.symm).2.2.2.2); (case side8 => exact Kd.R_tight rfl HO_292002.out); (case side9 => exact fun k_ e_ => (HO_292002.out.1 k_ e_.symm).2.2.2.1); (case side10 => exact fun k_ e_ => (HO_292002.out.1 k_ e_.symm).2.2.2.2); rintro e w64 ⟨rfl, hy0, hy1, hy2, hb, hkp⟩; refine ⟨_, rfl, ?_⟩; have n0_ := Aside0.mk (Kd.R_mono (ok' := fun k_ => nbk k_ Ao16 t270.length co16 ∧ nbk k_ Ao17 t273.length co17 ∧ nbk k_ Ao22 t281.length co22 ∧ nbk k_ Ao25 t284.length co25 ∧ nbk k_ Ao26 t287.length co26) (Kd.R_keptB (HO_278000.out) hkp (fun k_ hk_ hs_ => Or.elim hs_ (fun e_ => (hk_.2.2.1) e_) (fun e_ => Or.elim e_ (fun e_ => (hk_.2.2.2.1) e_) (fun e_ => (hk_.2.2.2.2) e_)))) (fun k_ hk_ => ⟨hk_.1.1, hk_.1.2.1, hk_.1.2.2.1, hk_.1.2.2.2.1, hk_.1.2.2.2.2⟩)); have n1_ := Aside0.mk (Kd.R_mono (ok' := fun k_ => nbk k_ Ao14 t267.length co14 ∧ nbk k_ Ao17 t273.length co17 ∧ nbk k_ Ao22 t281.length co22 ∧ nbk k_ Ao25 t284.length co25 ∧ nbk k_ Ao26 t287.length co26) (Kd.R_keptB (HO_278001.out) hkp (fun k_ hk_ hs_ => Or.elim hs_ (fun e_ => (hk_.2.2.1) e_) (fun e_ => Or.elim e_ (fun e_ => (hk_.2.2.2.1) e_) (fun e_ => (hk_.2.2.2.2) e_)))) (fun k_ hk_ => ⟨hk_.1.1, hk_.1.2.1, hk_.1.2.2.1, hk_.1.2.2.2.1, hk_.1.2.2.2.2⟩)); have n2_ := Aside0.mk (Kd.R_mono (ok' := fun k_ => nbk k_ Ao14 t267.length co14 ∧ nbk k_ Ao16 t270.length co16 ∧ nbk k_ Ao22 t281.length co22 ∧ nbk k_ Ao25 t284.length co25 ∧ nbk k_ Ao26 t287.length co26) (Kd.R_keptB (HO_278002.out) hkp (fun k_ hk_ hs_ => Or.elim hs_ (fun e_ => (hk_.2.2.1) e_) (fun e_ => Or.elim e_ (fun e_ => (hk_.2.2.2.1) e_) (fun e_ => (hk_.2.2.2.2) e_)))) (fun k_ hk_ => ⟨hk_.1.1, hk_.1.2.1, hk_.1.2.2.1, hk_.1.2.2.2.1, hk_.1.2.2.2.2⟩)); have n3_ := Aside0.mk (Kd.R_reok rfl hy0 (fun k_ e_ => HO_292000.out.1 k_ e_)); have n4_ := Aside0.mk (Kd.R_reok rfl hy1 (fun k_ e_ => HO_292001.out.1 k_ e_)); have n5_ := Aside0.mk (Kd.R_reok rfl hy2 (fun k_ e_ => HO_292002.out.1 k_ e_)); have n6_ := Aside0.mk (blk_kept a196_ hkp (fun hs_ => Or.elim hs_ (fun e_ => (fun e_ => (Kd.R_ne HO_292000.out BK277.out (by decide)) e_) e_) (fun e_ => Or.elim e_ (fun e_ => (fun e_ => (Kd.R_ne HO_292001.out BK277.out (by decide)) e_) e_) (fun e_ => (fun e_ => (Kd.R_ne HO_292002.out BK277.out (by decide)) e_) e_)))); have n7_ := Aside0.mk (blk_kept a197_ hkp (fun hs_ => Or.elim hs_ (fun e_ => (fun e_ => (Kd.R_ne HO_292000.out BK291.out (by decide)) e_) e_) (fun e_ => Or.elim e_ (fun e_ => (fun e_ => (Kd.R_ne HO_292001.out BK291.out (by decide)) e_) e_) (fun e_ => (fun e_ => (Kd.R_ne HO_292002.out BK291.out (by decide)) e_) e_)))); have n8_ := Aside0.mk (hb); clear HO_278000; clear HO_278001; clear HO_278002; clear HO_292000; clear HO_292001; clear HO_292002; clear BK277; clear BK291; clear HB; have HO_278000 := n0_; have HO_278001 := n1_; have HO_278002 := n2_; have HO_292000 := n3_; have HO_292001 := n4_; have HO_292002 := n5_; have BK277 := n6_; have BK291 := n7_; have HB := n8_; clear n0_ n1_ n2_ n3_ n4_ n5_ n6_ n7_ n8_; (try clear hb); (try clear hkp); (try clear hy0); (try clear hy1); (try clear hy2); have hcz65_0 : w64.cell? ⟨gb291, 0, none⟩ = some (.slice Ao22 t281.length co22) := (blk_cell BK291.out 0).trans rfl; have hcz65_1 : w64.cell? ⟨gb291, 1, none⟩ = some (.slice Ao25 t284.length co25) := (blk_cell BK291.out 1).trans rfl; have hcz65_2 : w64.cell? ⟨gb291, 2, none⟩ = some (.slice Ao26 t287.length co26) := (blk_cell BK291.out 2).trans rfl; have hfz65_0 := blk_frozen BK291.out 0; have hfz65_1 := blk_frozen BK291.out 1; have hfz65_2 := blk_frozen BK291.out 2) | ((with_reducible refine gate_callee (f := 23) rfl ?_); refine goesL_ (some 71) rfl rfl Try.func23 (by kernel_rfl) rfl #[.agg #[.slice Ao22 t301.length co22, .slice Ao25 t302.length co25, .slice Ao26 t303.length co26], .int .i64 1] rfl a221_ ?_; (with_reducible refine (laws_heldMachine.calls kj41 _ _ t301 _ _ t302 _ _ t303 1 t304 _ ?side1 ?side2 ?side3 ?side4 ?side5 ?side6 A60.out).mono ?_); (case side1 => exact a247_); (case side2 => exact a270_); (case side3 => exact a248_); (case side4 => exact a271_); (case side5 => exact a249_); (case side6 => exact a272_); rintro e w66 ⟨rfl, hb⟩; refine ⟨_, rfl, ?_⟩; have n0_ := Aside0.mk (Kd.R_below a198_ hb); have n1_ := Aside0.mk (Kd.R_below a199_ hb); have n2_ := Aside0.mk (Kd.R_below a200_ hb); have n3_ := Aside0.mk (Kd.R_below a201_ hb); have n4_ := Aside0.mk (Kd.R_below a202_ hb); have n5_ := Aside0.mk (Kd.R_below a203_ hb); have n6_ := Aside0.mk (blk_below (g := gb277) a196_ hb); have n7_ := Aside0.mk (blk_below (g := gb291) a197_ hb); have n8_ := Aside0.mk (below_step a194_ hb); clear HO_278000; clear HO_278001; clear HO_278002; clear HO_292000; clear HO_292001; clear HO_292002; clear BK277; clear BK291; clear HB; have HO_278000 := n0_; have HO_278001 := n1_; have HO_278002 := n2_; have HO_292000 := n3_; have HO_292001 := n4_; have HO_292002 := n5_; have BK277 := n6_; have BK291 := n7_; have HB := n8_; clear n0_ n1_ n2_ n3_ n4_ n5_ n6_ n7_ n8_; (try clear hb); (try clear hb2); (try clear hk); (try clear hi)))
          go_ret
          exact ⟨by first | rfl | (simp [errW_none, errW_some] <;> rfl) | (simp [*, errW_none, errW_some] <;> rfl), by repeat (first | (with_reducible first | exact HB.out | apply below_alloc | apply pw_below_drewN | apply below_drew1 | refine below_set ?_ GE277.out | refine below_set ?_ GE291.out) | exact HB.out)⟩
         ·rw [if_neg c61] at H
          have c61b0 : decide (t304 < 0) = false := decide_eq_false c61
          clear c61
          by_cases c67 : t304 = t300
          ·rw [if_pos c67] at H
           have c67b0 : (t304 == t300) = true := beq_iff_eq.mpr c67
           have c67b1 : (t304 != t300) = false := bne_eq_false_iff_eq.mpr c67
           clear c67
           replace H := Option.bind_eq_some_iff.mp H
           obtain ⟨t305, A680, H⟩ := H
           replace H : ((impl_MachineFor.f kj41 t305 a1).bind fun bt308 => ((laws_eqMachine.f kj41 bt308.1 bt308.2.1 bt308.2.2.1 t267 t270 t273).bind fun t319 => (if t319 = true then (laws_FnExactMachineFor.j2 kj41 t300 (bt308.2.2.2 != t276) t301 t302 t303) else (laws_FnExactMachineFor.j2 kj41 t300 true t301 t302 t303)))) = some r := H
           have A68 := Aside0.mk A680
           clear A680
           replace H := Option.bind_eq_some_iff.mp H
           obtain ⟨⟨t308, t311, t314, t317⟩, A690, H⟩ := H
           replace H : ((laws_eqMachine.f kj41 t308 t311 t314 t267 t270 t273).bind fun t319 => (if t319 = true then (laws_FnExactMachineFor.j2 kj41 t300 (t317 != t276) t301 t302 t303) else (laws_FnExactMachineFor.j2 kj41 t300 true t301 t302 t303))) = some r := H
           have A69 := Aside0.mk A690
           clear A690
           have HC70 := Aside0.mk H
           clear H
           have hnb71 := NB291_277.out
           have hnc71 := NB277_291.out
           have hcz72_0 : wc.cell? ⟨gb291, 0, none⟩ = some (.slice Ao22 t281.length co22) := (blk_cell BK291.out 0).trans rfl
           have hcz72_1 : wc.cell? ⟨gb291, 1, none⟩ = some (.slice Ao25 t284.length co25) := (blk_cell BK291.out 1).trans rfl
           have hcz72_2 : wc.cell? ⟨gb291, 2, none⟩ = some (.slice Ao26 t287.length co26) := (blk_cell BK291.out 2).trans rfl
           have hfz72_0 := blk_frozen BK291.out 0
           have hfz72_1 := blk_frozen BK291.out 1
           have hfz72_2 := blk_frozen BK291.out 2
           go_upto_region 25 with (first | ((with_reducible refine gate_callee (f := 22) rfl ?_); refine goesL_ (some 68) rfl rfl Try.func22 (by kernel_rfl) rfl #[.agg #[.slice Ao22 t281.length co22, .slice Ao25 t284.length co25, .slice Ao26 t287.length co26], .int .i64 1] rfl a195_ ?_; (with_reducible refine (laws_markMachine.calls kj41 (fun k_ => some k_ = (.slice Ao22 t281.length co22 : Value).ownBlock) (.slice Ao22 t281.length co22) t281 (fun k_ => some k_ = (.slice Ao25 t284.length co25 : Value).ownBlock) (.slice Ao25 t284.length co25) t284 (fun k_ => some k_ = (.slice Ao26 t287.length co26 : Value).ownBlock) (.slice Ao26 t287.length co26) t287 1 t300 t301 t302 t303 w _ ?side1 ?side2 ?side3 ?side4 ?side5 ?side6 ?side7 ?side8 ?side9 ?side10 A59.out).mono ?_); (case side1 => exact a250_); (case side2 => exact Kd.R_tight rfl HO_292000.out); (case side3 => exact fun k_ e_ => (HO_292000.out.1 k_ e_.symm).2.2.2.1); (case side4 => exact fun k_ e_ => (HO_292000.out.1 k_ e_.symm).2.2.2.2); (case side5 => exact Kd.R_tight rfl HO_292001.out); (case side6 => exact fun k_ e_ => (HO_292001.out.1 k_ e_.symm).2.2.2.1); (case side7 => exact fun k_ e_ => (HO_292001.out.1 k_ e_.symm).2.2.2.2); (case side8 => exact Kd.R_tight rfl HO_292002.out); (case side9 => exact fun k_ e_ => (HO_292002.out.1 k_ e_.symm).2.2.2.1); (case side10 => exact fun k_ e_ => (HO_292002.out.1 k_ e_.symm).2.2.2.2); rintro e w73 ⟨rfl, hy0, hy1, hy2, hb, hkp⟩; refine ⟨_, rfl, ?_⟩; have n0_ := Aside0.mk (Kd.R_mono (ok' := fun k_ => nbk k_ Ao16 t270.length co16 ∧ nbk k_ Ao17 t273.length co17 ∧ nbk k_ Ao22 t281.length co22 ∧ nbk k_ Ao25 t284.length co25 ∧ nbk k_ Ao26 t287.length co26) (Kd.R_keptB (HO_278000.out) hkp (fun k_ hk_ hs_ => Or.elim hs_ (fun e_ => (hk_.2.2.1) e_) (fun e_ => Or.elim e_ (fun e_ => (hk_.2.2.2.1) e_) (fun e_ => (hk_.2.2.2.2) e_)))) (fun k_ hk_ => ⟨hk_.1.1, hk_.1.2.1, hk_.1.2.2.1, hk_.1.2.2.2.1, hk_.1.2.2.2.2⟩)); have n1_ := Aside0.mk (Kd.R_mono (ok' := fun k_ => nbk k_ Ao14 t267.length co14 ∧ nbk k_ Ao17 t273.length co17 ∧ nbk k_ Ao22 t281.length co22 ∧ nbk k_ Ao25 t284.length co25 ∧ nbk k_ Ao26 t287.length co26) (Kd.R_keptB (HO_278001.out) hkp (fun k_ hk_ hs_ => Or.elim hs_ (fun e_ => (hk_.2.2.1) e_) (fun e_ => Or.elim e_ (fun e_ => (hk_.2.2.2.1) e_) (fun e_ => (hk_.2.2.2.2) e_)))) (fun k_ hk_ => ⟨hk_.1.1, hk_.1.2.1, hk_.1.2.2.1, hk_.1.2.2.2.1, hk_.1.2.2.2.2⟩)); have n2_ := Aside0.mk (Kd.R_mono (ok' := fun k_ => nbk k_ Ao14 t267.length co14 ∧ nbk k_ Ao16 t270.length co16 ∧ nbk k_ Ao22 t281.length co22 ∧ nbk k_ Ao25 t284.length co25 ∧ nbk k_ Ao26 t287.length co26) (Kd.R_keptB (HO_278002.out) hkp (fun k_ hk_ hs_ => Or.elim hs_ (fun e_ => (hk_.2.2.1) e_) (fun e_ => Or.elim e_ (fun e_ => (hk_.2.2.2.1) e_) (fun e_ => (hk_.2.2.2.2) e_)))) (fun k_ hk_ => ⟨hk_.1.1, hk_.1.2.1, hk_.1.2.2.1, hk_.1.2.2.2.1, hk_.1.2.2.2.2⟩)); have n3_ := Aside0.mk (Kd.R_reok rfl hy0 (fun k_ e_ => HO_292000.out.1 k_ e_)); have n4_ := Aside0.mk (Kd.R_reok rfl hy1 (fun k_ e_ => HO_292001.out.1 k_ e_)); have n5_ := Aside0.mk (Kd.R_reok rfl hy2 (fun k_ e_ => HO_292002.out.1 k_ e_)); have n6_ := Aside0.mk (blk_kept a196_ hkp (fun hs_ => Or.elim hs_ (fun e_ => (fun e_ => (Kd.R_ne HO_292000.out BK277.out (by decide)) e_) e_) (fun e_ => Or.elim e_ (fun e_ => (fun e_ => (Kd.R_ne HO_292001.out BK277.out (by decide)) e_) e_) (fun e_ => (fun e_ => (Kd.R_ne HO_292002.out BK277.out (by decide)) e_) e_)))); have n7_ := Aside0.mk (blk_kept a197_ hkp (fun hs_ => Or.elim hs_ (fun e_ => (fun e_ => (Kd.R_ne HO_292000.out BK291.out (by decide)) e_) e_) (fun e_ => Or.elim e_ (fun e_ => (fun e_ => (Kd.R_ne HO_292001.out BK291.out (by decide)) e_) e_) (fun e_ => (fun e_ => (Kd.R_ne HO_292002.out BK291.out (by decide)) e_) e_)))); have n8_ := Aside0.mk (hb); clear HO_278000; clear HO_278001; clear HO_278002; clear HO_292000; clear HO_292001; clear HO_292002; clear BK277; clear BK291; clear HB; have HO_278000 := n0_; have HO_278001 := n1_; have HO_278002 := n2_; have HO_292000 := n3_; have HO_292001 := n4_; have HO_292002 := n5_; have BK277 := n6_; have BK291 := n7_; have HB := n8_; clear n0_ n1_ n2_ n3_ n4_ n5_ n6_ n7_ n8_; (try clear hb); (try clear hkp); (try clear hy0); (try clear hy1); (try clear hy2); have hcz74_0 : w73.cell? ⟨gb291, 0, none⟩ = some (.slice Ao22 t281.length co22) := (blk_cell BK291.out 0).trans rfl; have hcz74_1 : w73.cell? ⟨gb291, 1, none⟩ = some (.slice Ao25 t284.length co25) := (blk_cell BK291.out 1).trans rfl; have hcz74_2 : w73.cell? ⟨gb291, 2, none⟩ = some (.slice Ao26 t287.length co26) := (blk_cell BK291.out 2).trans rfl; have hfz74_0 := blk_frozen BK291.out 0; have hfz74_1 := blk_frozen BK291.out 1; have hfz74_2 := blk_frozen BK291.out 2) | ((with_reducible refine gate_callee (f := 23) rfl ?_); refine goesL_ (some 71) rfl rfl Try.func23 (by kernel_rfl) rfl #[.agg #[.slice Ao22 t301.length co22, .slice Ao25 t302.length co25, .slice Ao26 t303.length co26], .int .i64 1] rfl a221_ ?_; (with_reducible refine (laws_heldMachine.calls kj41 _ _ t301 _ _ t302 _ _ t303 1 t304 _ ?side1 ?side2 ?side3 ?side4 ?side5 ?side6 A60.out).mono ?_); (case side1 => exact a247_); (case side2 => exact a270_); (case side3 => exact a248_); (case side4 => exact a271_); (case side5 => exact a249_); (case side6 => exact a272_); rintro e w75 ⟨rfl, hb⟩; refine ⟨_, rfl, ?_⟩; have n0_ := Aside0.mk (Kd.R_below a198_ hb); have n1_ := Aside0.mk (Kd.R_below a199_ hb); have n2_ := Aside0.mk (Kd.R_below a200_ hb); have n3_ := Aside0.mk (Kd.R_below a201_ hb); have n4_ := Aside0.mk (Kd.R_below a202_ hb); have n5_ := Aside0.mk (Kd.R_below a203_ hb); have n6_ := Aside0.mk (blk_below (g := gb277) a196_ hb); have n7_ := Aside0.mk (blk_below (g := gb291) a197_ hb); have n8_ := Aside0.mk (below_step a194_ hb); clear HO_278000; clear HO_278001; clear HO_278002; clear HO_292000; clear HO_292001; clear HO_292002; clear BK277; clear BK291; clear HB; have HO_278000 := n0_; have HO_278001 := n1_; have HO_278002 := n2_; have HO_292000 := n3_; have HO_292001 := n4_; have HO_292002 := n5_; have BK277 := n6_; have BK291 := n7_; have HB := n8_; clear n0_ n1_ n2_ n3_ n4_ n5_ n6_ n7_ n8_; (try clear hb); (try clear hb2); (try clear hk); (try clear hi)) | ((with_reducible refine gate_callee (f := 53) rfl ?_); refine goesL_ (some 79) rfl rfl Try.func53 (by kernel_rfl) rfl #[.slice A0 l0.length c0] rfl a195_ ?_; (with_reducible refine (laws_toStopS.calls kj41 _ _ l0 t305 _ ?side1 ?side2 A68.out).mono ?_); (case side1 => exact a263_); (case side2 => exact HC0.out); rintro e w76 ⟨v306, rfl, ho0, hb⟩; refine ⟨_, rfl, ?_⟩; have n0_ := Aside0.mk (Kd.R_below a198_ hb); have n1_ := Aside0.mk (Kd.R_below a199_ hb); have n2_ := Aside0.mk (Kd.R_below a200_ hb); have n3_ := Aside0.mk (Kd.R_below a201_ hb); have n4_ := Aside0.mk (Kd.R_below a202_ hb); have n5_ := Aside0.mk (Kd.R_below a203_ hb); have n6_ := Aside0.mk (Kd.R_lower ho0 (below_size a194_)); have n7_ := Aside0.mk (blk_below (g := gb277) a196_ hb); have n8_ := Aside0.mk (blk_below (g := gb291) a197_ hb); have n9_ := Aside0.mk (below_step a194_ hb); clear HO_278000; clear HO_278001; clear HO_278002; clear HO_292000; clear HO_292001; clear HO_292002; clear BK277; clear BK291; clear HB; have HO_278000 := n0_; have HO_278001 := n1_; have HO_278002 := n2_; have HO_292000 := n3_; have HO_292001 := n4_; have HO_292002 := n5_; have HO307 := n6_; have BK277 := n7_; have BK291 := n8_; have HB := n9_; clear n0_ n1_ n2_ n3_ n4_ n5_ n6_ n7_ n8_ n9_; (try clear hb); (try clear hb2); (try clear hk); (try clear hi); (try clear ho0); obtain ⟨Ao77, co77, eo77⟩ := Kd.R_slice HO307.out; subst eo77) | ((with_reducible refine gate_callee (f := 54) rfl ?_); refine goesL_ (some 81) rfl rfl Try.func54 (by kernel_rfl) rfl #[.slice Ao77 t305.length co77, .int .i64 a1] rfl a195_ ?_; (with_reducible refine (impl_MachineFor.calls kj41 _ _ t305 a1 t308 t311 t314 t317 _ ?side1 ?side2 A69.out).mono ?_); (case side1 => repeat (first | exact (Kd.R_reads' HO307.out).2.2 | (with_reducible refine Kd.C_alloc ?_ _) | (with_reducible refine Kd.C_drewN ?_ _) | (with_reducible refine Kd.C_drew ?_))); (case side2 => exact (Kd.R_reads' HO307.out).2.1); rintro e w78 ⟨v309, v312, v315, rfl, ho0, ho1, ho2, hb⟩; refine ⟨_, rfl, ?_⟩; have n0_ := Aside0.mk (Kd.R_mono (Kd.R_told (Kd.R_told (Kd.R_told (Kd.R_old a198_ hb) (Kd.R_base ho0)) (Kd.R_base ho1)) (Kd.R_base ho2)) (fun _ h_ => h_.1)); have n1_ := Aside0.mk (Kd.R_mono (Kd.R_told (Kd.R_told (Kd.R_told (Kd.R_old a199_ hb) (Kd.R_base ho0)) (Kd.R_base ho1)) (Kd.R_base ho2)) (fun _ h_ => h_.1)); have n2_ := Aside0.mk (Kd.R_mono (Kd.R_told (Kd.R_told (Kd.R_told (Kd.R_old a200_ hb) (Kd.R_base ho0)) (Kd.R_base ho1)) (Kd.R_base ho2)) (fun _ h_ => h_.1)); have n3_ := Aside0.mk (Kd.R_mono (Kd.R_told (Kd.R_told (Kd.R_told (Kd.R_old a201_ hb) (Kd.R_base ho0)) (Kd.R_base ho1)) (Kd.R_base ho2)) (fun _ h_ => h_.1)); have n4_ := Aside0.mk (Kd.R_mono (Kd.R_told (Kd.R_told (Kd.R_told (Kd.R_old a202_ hb) (Kd.R_base ho0)) (Kd.R_base ho1)) (Kd.R_base ho2)) (fun _ h_ => h_.1)); have n5_ := Aside0.mk (Kd.R_mono (Kd.R_told (Kd.R_told (Kd.R_told (Kd.R_old a203_ hb) (Kd.R_base ho0)) (Kd.R_base ho1)) (Kd.R_base ho2)) (fun _ h_ => h_.1)); have n6_ := Aside0.mk (Kd.R_below a244_ hb); have n7_ := Aside0.mk (Kd.R_lower (Kd.R_new' (Kd.R_new' (Kd.R_new' (Kd.R_new' (Kd.R_new' (Kd.R_new' ho0 (Kd.R_lt a198_)) (Kd.R_lt a199_)) (Kd.R_lt a200_)) (Kd.R_lt a201_)) (Kd.R_lt a202_)) (Kd.R_lt a203_)) (below_size a194_)); have n8_ := Aside0.mk (Kd.R_lower (Kd.R_new' (Kd.R_new' (Kd.R_new' (Kd.R_new' (Kd.R_new' (Kd.R_new' ho1 (Kd.R_lt a198_)) (Kd.R_lt a199_)) (Kd.R_lt a200_)) (Kd.R_lt a201_)) (Kd.R_lt a202_)) (Kd.R_lt a203_)) (below_size a194_)); have n9_ := Aside0.mk (Kd.R_lower (Kd.R_new' (Kd.R_new' (Kd.R_new' (Kd.R_new' (Kd.R_new' (Kd.R_new' ho2 (Kd.R_lt a198_)) (Kd.R_lt a199_)) (Kd.R_lt a200_)) (Kd.R_lt a201_)) (Kd.R_lt a202_)) (Kd.R_lt a203_)) (below_size a194_)); have n10_ := Aside0.mk (blk_below (g := gb277) a196_ hb); have n11_ := Aside0.mk (blk_below (g := gb291) a197_ hb); have n12_ := Aside0.mk (below_step a194_ hb); clear HO_278000; clear HO_278001; clear HO_278002; clear HO_292000; clear HO_292001; clear HO_292002; clear HO307; clear BK277; clear BK291; clear HB; have HO_278000 := n0_; have HO_278001 := n1_; have HO_278002 := n2_; have HO_292000 := n3_; have HO_292001 := n4_; have HO_292002 := n5_; have HO307 := n6_; have HO310 := n7_; have HO313 := n8_; have HO316 := n9_; have BK277 := n10_; have BK291 := n11_; have HB := n12_; clear n0_ n1_ n2_ n3_ n4_ n5_ n6_ n7_ n8_ n9_ n10_ n11_ n12_; (try clear hb); (try clear hb2); (try clear hk); (try clear hi); (try clear ho0); (try clear ho1); (try clear ho2)) | ((with_reducible refine gate_dst (N := 14) rfl ?_); refine box_event ?hg (N := 14) ?hd (cs := #[.slice none 0 0, .slice none 0 0, .slice none 0 0]) (t := 29) ?hr ?_; (case hd => rfl); (case hg => rfl); (case hr => first | (go_simp; done) | (go_simp; rfl)); intro gb318 hg w79 hbox hb; have n0_ := Aside0.mk (Kd.R_below a198_ hb); have n1_ := Aside0.mk (Kd.R_below a199_ hb); have n2_ := Aside0.mk (Kd.R_below a200_ hb); have n3_ := Aside0.mk (Kd.R_below a201_ hb); have n4_ := Aside0.mk (Kd.R_below a202_ hb); have n5_ := Aside0.mk (Kd.R_below a203_ hb); have n6_ := Aside0.mk (Kd.R_below a244_ hb); have n7_ := Aside0.mk (Kd.R_below (by (with_reducible repeat (first | apply Kd.R_alloc | apply Kd.R_drewN | apply Kd.R_drew)); exact HO310.out) hb); have n8_ := Aside0.mk (Kd.R_below (by (with_reducible repeat (first | apply Kd.R_alloc | apply Kd.R_drewN | apply Kd.R_drew)); exact HO313.out) hb); have n9_ := Aside0.mk (Kd.R_below (by (with_reducible repeat (first | apply Kd.R_alloc | apply Kd.R_drewN | apply Kd.R_drew)); exact HO316.out) hb); have n10_ := Aside0.mk (blk_below (g := gb277) a196_ hb); have n11_ := Aside0.mk (blk_below (g := gb291) a197_ hb); have n12_ := Aside0.mk (below_step a194_ hb); have n13_ := Aside0.mk (hbox); have n14_ := Aside0.mk ((by rw [hg]; exact (below_size a194_) : w.heap.size ≤ gb318)); have n15_ := Aside0.mk ((by rw [hg]; exact (below_size a194_) : w.heap.size ≤ gb318)); have n16_ := Aside0.mk ((a245_ : gb277 ≠ gb318)); have n17_ := Aside0.mk ((a246_ : gb318 ≠ gb277)); have n18_ := Aside0.mk ((by rw [hg]; exact Nat.ne_of_lt (blk_lt (g := gb291) (o := .cells #[.slice Ao22 t281.length co22, .slice Ao25 t284.length co25, .slice Ao26 t287.length co26] 29 (0, 0)) a197_) : gb291 ≠ gb318)); have n19_ := Aside0.mk ((by rw [hg]; exact Nat.ne_of_gt (blk_lt (g := gb291) (o := .cells #[.slice Ao22 t281.length co22, .slice Ao25 t284.length co25, .slice Ao26 t287.length co26] 29 (0, 0)) a197_) : gb318 ≠ gb291)); clear HO_278000; clear HO_278001; clear HO_278002; clear HO_292000; clear HO_292001; clear HO_292002; clear HO307; clear HO310; clear HO313; clear HO316; clear BK277; clear BK291; clear HB; have HO_278000 := n0_; have HO_278001 := n1_; have HO_278002 := n2_; have HO_292000 := n3_; have HO_292001 := n4_; have HO_292002 := n5_; have HO307 := n6_; have HO310 := n7_; have HO313 := n8_; have HO316 := n9_; have BK277 := n10_; have BK291 := n11_; have HB := n12_; have BK318 := n13_; have GW318 := n14_; have GE318 := n15_; have NB277_318 := n16_; have NB318_277 := n17_; have NB291_318 := n18_; have NB318_291 := n19_; clear n0_ n1_ n2_ n3_ n4_ n5_ n6_ n7_ n8_ n9_ n10_ n11_ n12_ n13_ n14_ n15_ n16_ n17_ n18_ n19_; clear hb hbox hg; obtain ⟨Ao80, co80, eo80⟩ := Kd.R_slice HO310.out; subst eo80; have hnb81 := NB318_277.out; have hnc81 := NB277_318.out; have hnb82 := NB318_291.out; have hnc82 := NB291_318.out; have hcz83_0 : w79.cell? ⟨gb318, 0, none⟩ = some (.slice none 0 0) := (blk_cell BK318.out 0).trans rfl; have hcz83_1 : w79.cell? ⟨gb318, 1, none⟩ = some (.slice none 0 0) := (blk_cell BK318.out 1).trans rfl; have hcz83_2 : w79.cell? ⟨gb318, 2, none⟩ = some (.slice none 0 0) := (blk_cell BK318.out 2).trans rfl; have hfz83_0 := blk_frozen BK318.out 0; have hfz83_1 := blk_frozen BK318.out 1; have hfz83_2 := blk_frozen BK318.out 2; obtain ⟨Ao84, co84, eo84⟩ := Kd.R_slice HO313.out; subst eo84; obtain ⟨Ao85, co85, eo85⟩ := Kd.R_slice HO316.out; subst eo85))
           (try simp only [Act.put, List.setIfInBounds_toArray, List.set_cons_zero, List.set_cons_succ])
           go_cut [92] (fun v92 wc => ∃ (kq : Nat) (x92_69 : Bool), v92 = .bool x92_69 ∧ Aside0 (laws_FnExactMachineFor.j2 kq t300 x92_69 t301 t302 t303 = some r) ∧ Aside0 (kq ≤ kj41) ∧ Aside0 (Kd.R (Kd.int .i16) 38 wc w.heap.size (fun k_ => some k_ ≠ ((.slice Ao16 t270.length co16) : Value).ownBlock ∧ some k_ ≠ ((.slice Ao17 t273.length co17) : Value).ownBlock ∧ some k_ ≠ ((.slice Ao22 t281.length co22) : Value).ownBlock ∧ some k_ ≠ ((.slice Ao25 t284.length co25) : Value).ownBlock ∧ some k_ ≠ ((.slice Ao26 t287.length co26) : Value).ownBlock ∧ some k_ ≠ ((.slice Ao80 t308.length co80) : Value).ownBlock ∧ some k_ ≠ ((.slice Ao84 t311.length co84) : Value).ownBlock ∧ some k_ ≠ ((.slice Ao85 t314.length co85) : Value).ownBlock) (.slice Ao14 t267.length co14) t267) ∧ Aside0 (Kd.R (Kd.int .i16) 38 wc w.heap.size (fun k_ => some k_ ≠ ((.slice Ao14 t267.length co14) : Value).ownBlock ∧ some k_ ≠ ((.slice Ao17 t273.length co17) : Value).ownBlock ∧ some k_ ≠ ((.slice Ao22 t281.length co22) : Value).ownBlock ∧ some k_ ≠ ((.slice Ao25 t284.length co25) : Value).ownBlock ∧ some k_ ≠ ((.slice Ao26 t287.length co26) : Value).ownBlock ∧ some k_ ≠ ((.slice Ao80 t308.length co80) : Value).ownBlock ∧ some k_ ≠ ((.slice Ao84 t311.length co84) : Value).ownBlock ∧ some k_ ≠ ((.slice Ao85 t314.length co85) : Value).ownBlock) (.slice Ao16 t270.length co16) t270) ∧ Aside0 (Kd.R (Kd.int .i16) 38 wc w.heap.size (fun k_ => some k_ ≠ ((.slice Ao14 t267.length co14) : Value).ownBlock ∧ some k_ ≠ ((.slice Ao16 t270.length co16) : Value).ownBlock ∧ some k_ ≠ ((.slice Ao22 t281.length co22) : Value).ownBlock ∧ some k_ ≠ ((.slice Ao25 t284.length co25) : Value).ownBlock ∧ some k_ ≠ ((.slice Ao26 t287.length co26) : Value).ownBlock ∧ some k_ ≠ ((.slice Ao80 t308.length co80) : Value).ownBlock ∧ some k_ ≠ ((.slice Ao84 t311.length co84) : Value).ownBlock ∧ some k_ ≠ ((.slice Ao85 t314.length co85) : Value).ownBlock) (.slice Ao17 t273.length co17) t273) ∧ Aside0 (Kd.R (Kd.int .i16) 38 wc w.heap.size (fun k_ => some k_ ≠ ((.slice Ao14 t267.length co14) : Value).ownBlock ∧ some k_ ≠ ((.slice Ao16 t270.length co16) : Value).ownBlock ∧ some k_ ≠ ((.slice Ao17 t273.length co17) : Value).ownBlock ∧ some k_ ≠ ((.slice Ao25 t284.length co25) : Value).ownBlock ∧ some k_ ≠ ((.slice Ao26 t287.length co26) : Value).ownBlock ∧ some k_ ≠ ((.slice Ao80 t308.length co80) : Value).ownBlock ∧ some k_ ≠ ((.slice Ao84 t311.length co84) : Value).ownBlock ∧ some k_ ≠ ((.slice Ao85 t314.length co85) : Value).ownBlock) (.slice Ao22 t281.length co22) t301) ∧ Aside0 (Kd.R (Kd.int .i16) 38 wc w.heap.size (fun k_ => some k_ ≠ ((.slice Ao14 t267.length co14) : Value).ownBlock ∧ some k_ ≠ ((.slice Ao16 t270.length co16) : Value).ownBlock ∧ some k_ ≠ ((.slice Ao17 t273.length co17) : Value).ownBlock ∧ some k_ ≠ ((.slice Ao22 t281.length co22) : Value).ownBlock ∧ some k_ ≠ ((.slice Ao26 t287.length co26) : Value).ownBlock ∧ some k_ ≠ ((.slice Ao80 t308.length co80) : Value).ownBlock ∧ some k_ ≠ ((.slice Ao84 t311.length co84) : Value).ownBlock ∧ some k_ ≠ ((.slice Ao85 t314.length co85) : Value).ownBlock) (.slice Ao25 t284.length co25) t302) ∧ Aside0 (Kd.R (Kd.int .i16) 38 wc w.heap.size (fun k_ => some k_ ≠ ((.slice Ao14 t267.length co14) : Value).ownBlock ∧ some k_ ≠ ((.slice Ao16 t270.length co16) : Value).ownBlock ∧ some k_ ≠ ((.slice Ao17 t273.length co17) : Value).ownBlock ∧ some k_ ≠ ((.slice Ao22 t281.length co22) : Value).ownBlock ∧ some k_ ≠ ((.slice Ao25 t284.length co25) : Value).ownBlock ∧ some k_ ≠ ((.slice Ao80 t308.length co80) : Value).ownBlock ∧ some k_ ≠ ((.slice Ao84 t311.length co84) : Value).ownBlock ∧ some k_ ≠ ((.slice Ao85 t314.length co85) : Value).ownBlock) (.slice Ao26 t287.length co26) t303) ∧ Aside0 (Kd.R (Kd.int .i16) 38 wc w.heap.size (fun k_ => some k_ ≠ ((.slice Ao14 t267.length co14) : Value).ownBlock ∧ some k_ ≠ ((.slice Ao16 t270.length co16) : Value).ownBlock ∧ some k_ ≠ ((.slice Ao17 t273.length co17) : Value).ownBlock ∧ some k_ ≠ ((.slice Ao22 t281.length co22) : Value).ownBlock ∧ some k_ ≠ ((.slice Ao25 t284.length co25) : Value).ownBlock ∧ some k_ ≠ ((.slice Ao26 t287.length co26) : Value).ownBlock ∧ some k_ ≠ ((.slice Ao84 t311.length co84) : Value).ownBlock ∧ some k_ ≠ ((.slice Ao85 t314.length co85) : Value).ownBlock) (.slice Ao80 t308.length co80) t308) ∧ Aside0 (Kd.R (Kd.int .i16) 38 wc w.heap.size (fun k_ => some k_ ≠ ((.slice Ao14 t267.length co14) : Value).ownBlock ∧ some k_ ≠ ((.slice Ao16 t270.length co16) : Value).ownBlock ∧ some k_ ≠ ((.slice Ao17 t273.length co17) : Value).ownBlock ∧ some k_ ≠ ((.slice Ao22 t281.length co22) : Value).ownBlock ∧ some k_ ≠ ((.slice Ao25 t284.length co25) : Value).ownBlock ∧ some k_ ≠ ((.slice Ao26 t287.length co26) : Value).ownBlock ∧ some k_ ≠ ((.slice Ao80 t308.length co80) : Value).ownBlock ∧ some k_ ≠ ((.slice Ao85 t314.length co85) : Value).ownBlock) (.slice Ao84 t311.length co84) t311) ∧ Aside0 (Kd.R (Kd.int .i16) 38 wc w.heap.size (fun k_ => some k_ ≠ ((.slice Ao14 t267.length co14) : Value).ownBlock ∧ some k_ ≠ ((.slice Ao16 t270.length co16) : Value).ownBlock ∧ some k_ ≠ ((.slice Ao17 t273.length co17) : Value).ownBlock ∧ some k_ ≠ ((.slice Ao22 t281.length co22) : Value).ownBlock ∧ some k_ ≠ ((.slice Ao25 t284.length co25) : Value).ownBlock ∧ some k_ ≠ ((.slice Ao26 t287.length co26) : Value).ownBlock ∧ some k_ ≠ ((.slice Ao80 t308.length co80) : Value).ownBlock ∧ some k_ ≠ ((.slice Ao84 t311.length co84) : Value).ownBlock) (.slice Ao85 t314.length co85) t314) ∧ Aside0 (wc.heap[gb277]? = some (.cells #[(.slice Ao14 t267.length co14), (.slice Ao16 t270.length co16), (.slice Ao17 t273.length co17)] 29 (0, 0))) ∧ Aside0 (wc.heap[gb291]? = some (.cells #[(.slice Ao22 t281.length co22), (.slice Ao25 t284.length co25), (.slice Ao26 t287.length co26)] 29 (0, 0))) ∧ Aside0 (wc.heap[gb318]? = some (.cells #[(.slice Ao80 t308.length co80), (.slice Ao84 t311.length co84), (.slice Ao85 t314.length co85)] 29 (0, 0))) ∧ Aside0 (Below w.heap.size w wc))
           case first =>
            have H := HC70.out
            clear HC70
            replace H := Option.bind_eq_some_iff.mp H
            obtain ⟨t319, A860, H⟩ := H
            replace H : (if t319 = true then (laws_FnExactMachineFor.j2 kj41 t300 (t317 != t276) t301 t302 t303) else (laws_FnExactMachineFor.j2 kj41 t300 true t301 t302 t303)) = some r := H
            have A86 := Aside0.mk A860
            clear A860
            by_cases c87 : t319 = true
            ·subst c87
             have H1 : (laws_FnExactMachineFor.j2 kj41 t300 (t317 != t276) t301 t302 t303) = some r := by rw [if_pos rfl] at H; exact H
             clear H
             have H := H1
             clear H1
             have H' := Aside0.mk H
             clear H
             have hnb88 := NB318_277.out
             have hnc88 := NB277_318.out
             have hnb89 := NB318_291.out
             have hnc89 := NB291_318.out
             have hcz90_0 : w79.cell? ⟨gb318, 0, none⟩ = some (.slice none 0 0) := (blk_cell BK318.out 0).trans rfl
             have hcz90_1 : w79.cell? ⟨gb318, 1, none⟩ = some (.slice none 0 0) := (blk_cell BK318.out 1).trans rfl
             have hcz90_2 : w79.cell? ⟨gb318, 2, none⟩ = some (.slice none 0 0) := (blk_cell BK318.out 2).trans rfl
             have hfz90_0 := blk_frozen BK318.out 0
             have hfz90_1 := blk_frozen BK318.out 1
             have hfz90_2 := blk_frozen BK318.out 2
             have hnb91 := NB277_291.out
             have hnc91 := NB291_277.out
             have hcz92_0 : w79.cell? ⟨gb277, 0, none⟩ = some (.slice Ao14 t267.length co14) := (blk_cell BK277.out 0).trans rfl
             have hcz92_1 : w79.cell? ⟨gb277, 1, none⟩ = some (.slice Ao16 t270.length co16) := (blk_cell BK277.out 1).trans rfl
             have hcz92_2 : w79.cell? ⟨gb277, 2, none⟩ = some (.slice Ao17 t273.length co17) := (blk_cell BK277.out 2).trans rfl
             have hfz92_0 := blk_frozen BK277.out 0
             have hfz92_1 := blk_frozen BK277.out 1
             have hfz92_2 := blk_frozen BK277.out 2
             go_wp2_with (first | ((with_reducible refine gate_callee (f := 19) rfl ?_); refine goesL_ (some 86) rfl rfl Try.func19 (by kernel_rfl) rfl #[.agg #[.slice Ao80 t308.length co80, .slice Ao84 t311.length co84, .slice Ao85 t314.length co85], .agg #[.slice Ao14 t267.length co14, .slice Ao16 t270.length co16, .slice Ao17 t273.length co17]] rfl a195_ ?_; (with_reducible refine (laws_eqMachine.calls kj41 _ _ t308 _ _ t311 _ _ t314 _ _ t267 _ _ t270 _ _ t273 true _ ?side1 ?side2 ?side3 ?side4 ?side5 ?side6 ?side7 ?side8 ?side9 ?side10 ?side11 ?side12 A86.out).mono ?_); (case side1 => exact a251_); (case side2 => exact (Kd.R_reads' HO310.out).2.1); (case side3 => exact a252_); (case side4 => exact (Kd.R_reads' HO313.out).2.1); (case side5 => exact a253_); (case side6 => exact (Kd.R_reads' HO316.out).2.1); (case side7 => exact a254_); (case side8 => exact (Kd.R_reads' HO_278000.out).2.1); (case side9 => exact a255_); (case side10 => exact (Kd.R_reads' HO_278001.out).2.1); (case side11 => exact a256_); (case side12 => exact (Kd.R_reads' HO_278002.out).2.1); rintro e w93 ⟨rfl, hb⟩; refine ⟨_, rfl, ?_⟩; have n0_ := Aside0.mk (Kd.R_below a204_ hb); have n1_ := Aside0.mk (Kd.R_below a205_ hb); have n2_ := Aside0.mk (Kd.R_below a206_ hb); have n3_ := Aside0.mk (Kd.R_below a225_ hb); have n4_ := Aside0.mk (Kd.R_below a226_ hb); have n5_ := Aside0.mk (Kd.R_below a227_ hb); have n6_ := Aside0.mk (Kd.R_below a231_ hb); have n7_ := Aside0.mk (Kd.R_below a213_ hb); have n8_ := Aside0.mk (Kd.R_below a214_ hb); have n9_ := Aside0.mk (Kd.R_below a215_ hb); have n10_ := Aside0.mk (blk_below (g := gb277) (o := .cells #[.slice Ao14 t267.length co14, .slice Ao16 t270.length co16, .slice Ao17 t273.length co17] 29 (0, 0)) a223_ hb); have n11_ := Aside0.mk (blk_below (g := gb291) (o := .cells #[.slice Ao22 t281.length co22, .slice Ao25 t284.length co25, .slice Ao26 t287.length co26] 29 (0, 0)) a224_ hb); have n12_ := Aside0.mk (blk_below (g := gb318) (o := .cells #[.slice Ao80 t308.length co80, .slice Ao84 t311.length co84, .slice Ao85 t314.length co85] 29 (0, 0)) a218_ hb); have n13_ := Aside0.mk (below_step a220_ hb); clear HO_278000; clear HO_278001; clear HO_278002; clear HO_292000; clear HO_292001; clear HO_292002; clear HO307; clear HO310; clear HO313; clear HO316; clear BK277; clear BK291; clear BK318; clear HB; have HO_278000 := n0_; have HO_278001 := n1_; have HO_278002 := n2_; have HO_292000 := n3_; have HO_292001 := n4_; have HO_292002 := n5_; have HO307 := n6_; have HO310 := n7_; have HO313 := n8_; have HO316 := n9_; have BK277 := n10_; have BK291 := n11_; have BK318 := n12_; have HB := n13_; clear n0_ n1_ n2_ n3_ n4_ n5_ n6_ n7_ n8_ n9_ n10_ n11_ n12_ n13_; (try clear hb); (try clear hb2); (try clear hk); (try clear hi)))
             go_meet
             case rel => exact ⟨_, ((t317 != t276)), a242_, H', ⟨by have := HJ8.out; have := HJ41.out; first | omega | exact Nat.le_refl _⟩, ⟨by (with_reducible repeat (first | apply Kd.R_alloc | apply Kd.R_drewN | apply Kd.R_drew)); exact Kd.R_mono HO_278000.out (fun _ hk => ⟨hk.1.1.1.1, ⟨hk.1.1.1.2.1, ⟨hk.1.1.1.2.2.1, ⟨hk.1.1.1.2.2.2.1, ⟨hk.1.1.1.2.2.2.2, ⟨hk.1.1.2, ⟨hk.1.2, hk.2⟩⟩⟩⟩⟩⟩⟩)⟩, ⟨by (with_reducible repeat (first | apply Kd.R_alloc | apply Kd.R_drewN | apply Kd.R_drew)); exact Kd.R_mono HO_278001.out (fun _ hk => ⟨hk.1.1.1.1, ⟨hk.1.1.1.2.1, ⟨hk.1.1.1.2.2.1, ⟨hk.1.1.1.2.2.2.1, ⟨hk.1.1.1.2.2.2.2, ⟨hk.1.1.2, ⟨hk.1.2, hk.2⟩⟩⟩⟩⟩⟩⟩)⟩, ⟨by (with_reducible repeat (first | apply Kd.R_alloc | apply Kd.R_drewN | apply Kd.R_drew)); exact Kd.R_mono HO_278002.out (fun _ hk => ⟨hk.1.1.1.1, ⟨hk.1.1.1.2.1, ⟨hk.1.1.1.2.2.1, ⟨hk.1.1.1.2.2.2.1, ⟨hk.1.1.1.2.2.2.2, ⟨hk.1.1.2, ⟨hk.1.2, hk.2⟩⟩⟩⟩⟩⟩⟩)⟩, ⟨by (with_reducible repeat (first | apply Kd.R_alloc | apply Kd.R_drewN | apply Kd.R_drew)); exact Kd.R_mono HO_292000.out (fun _ hk => ⟨hk.1.1.1.1, ⟨hk.1.1.1.2.1, ⟨hk.1.1.1.2.2.1, ⟨hk.1.1.1.2.2.2.1, ⟨hk.1.1.1.2.2.2.2, ⟨hk.1.1.2, ⟨hk.1.2, hk.2⟩⟩⟩⟩⟩⟩⟩)⟩, ⟨by (with_reducible repeat (first | apply Kd.R_alloc | apply Kd.R_drewN | apply Kd.R_drew)); exact Kd.R_mono HO_292001.out (fun _ hk => ⟨hk.1.1.1.1, ⟨hk.1.1.1.2.1, ⟨hk.1.1.1.2.2.1, ⟨hk.1.1.1.2.2.2.1, ⟨hk.1.1.1.2.2.2.2, ⟨hk.1.1.2, ⟨hk.1.2, hk.2⟩⟩⟩⟩⟩⟩⟩)⟩, ⟨by (with_reducible repeat (first | apply Kd.R_alloc | apply Kd.R_drewN | apply Kd.R_drew)); exact Kd.R_mono HO_292002.out (fun _ hk => ⟨hk.1.1.1.1, ⟨hk.1.1.1.2.1, ⟨hk.1.1.1.2.2.1, ⟨hk.1.1.1.2.2.2.1, ⟨hk.1.1.1.2.2.2.2, ⟨hk.1.1.2, ⟨hk.1.2, hk.2⟩⟩⟩⟩⟩⟩⟩)⟩, ⟨by (with_reducible repeat (first | apply Kd.R_alloc | apply Kd.R_drewN | apply Kd.R_drew)); exact Kd.R_mono HO310.out (fun _ hk => ⟨hk.1.1.1.1.1.2, ⟨hk.1.1.1.1.2, ⟨hk.1.1.1.2, ⟨hk.1.1.2, ⟨hk.1.2, ⟨hk.2, ⟨hk.1.1.1.1.1.1.1, hk.1.1.1.1.1.1.2⟩⟩⟩⟩⟩⟩⟩)⟩, ⟨by (with_reducible repeat (first | apply Kd.R_alloc | apply Kd.R_drewN | apply Kd.R_drew)); exact Kd.R_mono HO313.out (fun _ hk => ⟨hk.1.1.1.1.1.2, ⟨hk.1.1.1.1.2, ⟨hk.1.1.1.2, ⟨hk.1.1.2, ⟨hk.1.2, ⟨hk.2, ⟨hk.1.1.1.1.1.1.1, hk.1.1.1.1.1.1.2⟩⟩⟩⟩⟩⟩⟩)⟩, ⟨by (with_reducible repeat (first | apply Kd.R_alloc | apply Kd.R_drewN | apply Kd.R_drew)); exact Kd.R_mono HO316.out (fun _ hk => ⟨hk.1.1.1.1.1.2, ⟨hk.1.1.1.1.2, ⟨hk.1.1.1.2, ⟨hk.1.1.2, ⟨hk.1.2, ⟨hk.2, ⟨hk.1.1.1.1.1.1.1, hk.1.1.1.1.1.1.2⟩⟩⟩⟩⟩⟩⟩)⟩, ⟨by (with_reducible repeat (first | refine blk_drewN ?_ _ | refine blk_drew ?_ | refine blk_alloc ?_ _)); exact BK277.out⟩, ⟨by (with_reducible repeat (first | refine blk_drewN ?_ _ | refine blk_drew ?_ | refine blk_alloc ?_ _)); exact BK291.out⟩, ⟨by (with_reducible repeat (first | refine blk_drewN ?_ _ | refine blk_drew ?_ | refine blk_alloc ?_ _)); exact BK318.out⟩, ⟨by repeat (first | (with_reducible first | exact HB.out | apply below_alloc | apply pw_below_drewN | apply below_drew1 | refine below_set ?_ GE277.out | refine below_set ?_ GE291.out | refine below_set ?_ GE318.out) | exact HB.out)⟩⟩
            ·replace c87 := Bool.eq_false_iff.mpr c87
             subst c87
             have H1 : (laws_FnExactMachineFor.j2 kj41 t300 true t301 t302 t303) = some r := by rw [if_neg (show ¬ (false = true) by decide)] at H; exact H
             clear H
             have H := H1
             clear H1
             have H' := Aside0.mk H
             clear H
             have hnb94 := NB318_277.out
             have hnc94 := NB277_318.out
             have hnb95 := NB318_291.out
             have hnc95 := NB291_318.out
             have hcz96_0 : w79.cell? ⟨gb318, 0, none⟩ = some (.slice none 0 0) := (blk_cell BK318.out 0).trans rfl
             have hcz96_1 : w79.cell? ⟨gb318, 1, none⟩ = some (.slice none 0 0) := (blk_cell BK318.out 1).trans rfl
             have hcz96_2 : w79.cell? ⟨gb318, 2, none⟩ = some (.slice none 0 0) := (blk_cell BK318.out 2).trans rfl
             have hfz96_0 := blk_frozen BK318.out 0
             have hfz96_1 := blk_frozen BK318.out 1
             have hfz96_2 := blk_frozen BK318.out 2
             have hnb97 := NB277_291.out
             have hnc97 := NB291_277.out
             have hcz98_0 : w79.cell? ⟨gb277, 0, none⟩ = some (.slice Ao14 t267.length co14) := (blk_cell BK277.out 0).trans rfl
             have hcz98_1 : w79.cell? ⟨gb277, 1, none⟩ = some (.slice Ao16 t270.length co16) := (blk_cell BK277.out 1).trans rfl
             have hcz98_2 : w79.cell? ⟨gb277, 2, none⟩ = some (.slice Ao17 t273.length co17) := (blk_cell BK277.out 2).trans rfl
             have hfz98_0 := blk_frozen BK277.out 0
             have hfz98_1 := blk_frozen BK277.out 1
             have hfz98_2 := blk_frozen BK277.out 2
             go_wp2_with (first | ((with_reducible refine gate_callee (f := 19) rfl ?_); refine goesL_ (some 86) rfl rfl Try.func19 (by kernel_rfl) rfl #[.agg #[.slice Ao80 t308.length co80, .slice Ao84 t311.length co84, .slice Ao85 t314.length co85], .agg #[.slice Ao14 t267.length co14, .slice Ao16 t270.length co16, .slice Ao17 t273.length co17]] rfl a195_ ?_; (with_reducible refine (laws_eqMachine.calls kj41 _ _ t308 _ _ t311 _ _ t314 _ _ t267 _ _ t270 _ _ t273 false _ ?side1 ?side2 ?side3 ?side4 ?side5 ?side6 ?side7 ?side8 ?side9 ?side10 ?side11 ?side12 A86.out).mono ?_); (case side1 => exact a251_); (case side2 => exact (Kd.R_reads' HO310.out).2.1); (case side3 => exact a252_); (case side4 => exact (Kd.R_reads' HO313.out).2.1); (case side5 => exact a253_); (case side6 => exact (Kd.R_reads' HO316.out).2.1); (case side7 => exact a254_); (case side8 => exact (Kd.R_reads' HO_278000.out).2.1); (case side9 => exact a255_); (case side10 => exact (Kd.R_reads' HO_278001.out).2.1); (case side11 => exact a256_); (case side12 => exact (Kd.R_reads' HO_278002.out).2.1); rintro e w99 ⟨rfl, hb⟩; refine ⟨_, rfl, ?_⟩; have n0_ := Aside0.mk (Kd.R_below a204_ hb); have n1_ := Aside0.mk (Kd.R_below a205_ hb); have n2_ := Aside0.mk (Kd.R_below a206_ hb); have n3_ := Aside0.mk (Kd.R_below a225_ hb); have n4_ := Aside0.mk (Kd.R_below a226_ hb); have n5_ := Aside0.mk (Kd.R_below a227_ hb); have n6_ := Aside0.mk (Kd.R_below a231_ hb); have n7_ := Aside0.mk (Kd.R_below a213_ hb); have n8_ := Aside0.mk (Kd.R_below a214_ hb); have n9_ := Aside0.mk (Kd.R_below a215_ hb); have n10_ := Aside0.mk (blk_below (g := gb277) (o := .cells #[.slice Ao14 t267.length co14, .slice Ao16 t270.length co16, .slice Ao17 t273.length co17] 29 (0, 0)) a223_ hb); have n11_ := Aside0.mk (blk_below (g := gb291) (o := .cells #[.slice Ao22 t281.length co22, .slice Ao25 t284.length co25, .slice Ao26 t287.length co26] 29 (0, 0)) a224_ hb); have n12_ := Aside0.mk (blk_below (g := gb318) (o := .cells #[.slice Ao80 t308.length co80, .slice Ao84 t311.length co84, .slice Ao85 t314.length co85] 29 (0, 0)) a218_ hb); have n13_ := Aside0.mk (below_step a220_ hb); clear HO_278000; clear HO_278001; clear HO_278002; clear HO_292000; clear HO_292001; clear HO_292002; clear HO307; clear HO310; clear HO313; clear HO316; clear BK277; clear BK291; clear BK318; clear HB; have HO_278000 := n0_; have HO_278001 := n1_; have HO_278002 := n2_; have HO_292000 := n3_; have HO_292001 := n4_; have HO_292002 := n5_; have HO307 := n6_; have HO310 := n7_; have HO313 := n8_; have HO316 := n9_; have BK277 := n10_; have BK291 := n11_; have BK318 := n12_; have HB := n13_; clear n0_ n1_ n2_ n3_ n4_ n5_ n6_ n7_ n8_ n9_ n10_ n11_ n12_ n13_; (try clear hb); (try clear hb2); (try clear hk); (try clear hi)))
             go_meet
             case rel => exact ⟨_, (true), a242_, H', ⟨by have := HJ8.out; have := HJ41.out; first | omega | exact Nat.le_refl _⟩, ⟨by (with_reducible repeat (first | apply Kd.R_alloc | apply Kd.R_drewN | apply Kd.R_drew)); exact Kd.R_mono HO_278000.out (fun _ hk => ⟨hk.1.1.1.1, ⟨hk.1.1.1.2.1, ⟨hk.1.1.1.2.2.1, ⟨hk.1.1.1.2.2.2.1, ⟨hk.1.1.1.2.2.2.2, ⟨hk.1.1.2, ⟨hk.1.2, hk.2⟩⟩⟩⟩⟩⟩⟩)⟩, ⟨by (with_reducible repeat (first | apply Kd.R_alloc | apply Kd.R_drewN | apply Kd.R_drew)); exact Kd.R_mono HO_278001.out (fun _ hk => ⟨hk.1.1.1.1, ⟨hk.1.1.1.2.1, ⟨hk.1.1.1.2.2.1, ⟨hk.1.1.1.2.2.2.1, ⟨hk.1.1.1.2.2.2.2, ⟨hk.1.1.2, ⟨hk.1.2, hk.2⟩⟩⟩⟩⟩⟩⟩)⟩, ⟨by (with_reducible repeat (first | apply Kd.R_alloc | apply Kd.R_drewN | apply Kd.R_drew)); exact Kd.R_mono HO_278002.out (fun _ hk => ⟨hk.1.1.1.1, ⟨hk.1.1.1.2.1, ⟨hk.1.1.1.2.2.1, ⟨hk.1.1.1.2.2.2.1, ⟨hk.1.1.1.2.2.2.2, ⟨hk.1.1.2, ⟨hk.1.2, hk.2⟩⟩⟩⟩⟩⟩⟩)⟩, ⟨by (with_reducible repeat (first | apply Kd.R_alloc | apply Kd.R_drewN | apply Kd.R_drew)); exact Kd.R_mono HO_292000.out (fun _ hk => ⟨hk.1.1.1.1, ⟨hk.1.1.1.2.1, ⟨hk.1.1.1.2.2.1, ⟨hk.1.1.1.2.2.2.1, ⟨hk.1.1.1.2.2.2.2, ⟨hk.1.1.2, ⟨hk.1.2, hk.2⟩⟩⟩⟩⟩⟩⟩)⟩, ⟨by (with_reducible repeat (first | apply Kd.R_alloc | apply Kd.R_drewN | apply Kd.R_drew)); exact Kd.R_mono HO_292001.out (fun _ hk => ⟨hk.1.1.1.1, ⟨hk.1.1.1.2.1, ⟨hk.1.1.1.2.2.1, ⟨hk.1.1.1.2.2.2.1, ⟨hk.1.1.1.2.2.2.2, ⟨hk.1.1.2, ⟨hk.1.2, hk.2⟩⟩⟩⟩⟩⟩⟩)⟩, ⟨by (with_reducible repeat (first | apply Kd.R_alloc | apply Kd.R_drewN | apply Kd.R_drew)); exact Kd.R_mono HO_292002.out (fun _ hk => ⟨hk.1.1.1.1, ⟨hk.1.1.1.2.1, ⟨hk.1.1.1.2.2.1, ⟨hk.1.1.1.2.2.2.1, ⟨hk.1.1.1.2.2.2.2, ⟨hk.1.1.2, ⟨hk.1.2, hk.2⟩⟩⟩⟩⟩⟩⟩)⟩, ⟨by (with_reducible repeat (first | apply Kd.R_alloc | apply Kd.R_drewN | apply Kd.R_drew)); exact Kd.R_mono HO310.out (fun _ hk => ⟨hk.1.1.1.1.1.2, ⟨hk.1.1.1.1.2, ⟨hk.1.1.1.2, ⟨hk.1.1.2, ⟨hk.1.2, ⟨hk.2, ⟨hk.1.1.1.1.1.1.1, hk.1.1.1.1.1.1.2⟩⟩⟩⟩⟩⟩⟩)⟩, ⟨by (with_reducible repeat (first | apply Kd.R_alloc | apply Kd.R_drewN | apply Kd.R_drew)); exact Kd.R_mono HO313.out (fun _ hk => ⟨hk.1.1.1.1.1.2, ⟨hk.1.1.1.1.2, ⟨hk.1.1.1.2, ⟨hk.1.1.2, ⟨hk.1.2, ⟨hk.2, ⟨hk.1.1.1.1.1.1.1, hk.1.1.1.1.1.1.2⟩⟩⟩⟩⟩⟩⟩)⟩, ⟨by (with_reducible repeat (first | apply Kd.R_alloc | apply Kd.R_drewN | apply Kd.R_drew)); exact Kd.R_mono HO316.out (fun _ hk => ⟨hk.1.1.1.1.1.2, ⟨hk.1.1.1.1.2, ⟨hk.1.1.1.2, ⟨hk.1.1.2, ⟨hk.1.2, ⟨hk.2, ⟨hk.1.1.1.1.1.1.1, hk.1.1.1.1.1.1.2⟩⟩⟩⟩⟩⟩⟩)⟩, ⟨by (with_reducible repeat (first | refine blk_drewN ?_ _ | refine blk_drew ?_ | refine blk_alloc ?_ _)); exact BK277.out⟩, ⟨by (with_reducible repeat (first | refine blk_drewN ?_ _ | refine blk_drew ?_ | refine blk_alloc ?_ _)); exact BK291.out⟩, ⟨by (with_reducible repeat (first | refine blk_drewN ?_ _ | refine blk_drew ?_ | refine blk_alloc ?_ _)); exact BK318.out⟩, ⟨by repeat (first | (with_reducible first | exact HB.out | apply below_alloc | apply pw_below_drewN | apply below_drew1 | refine below_set ?_ GE277.out | refine below_set ?_ GE291.out | refine below_set ?_ GE318.out) | exact HB.out)⟩⟩
           case rest =>
            clear HC70
            try clear c1
            try clear c2
            try clear p2
            try clear c3
            try clear c4
            try clear c4b0
            try clear c5
            try clear c6
            try clear c7
            try clear c8
            try clear c9
            try clear c11
            try clear c19
            try clear c22
            try clear c23
            try clear c28
            try clear c29
            try clear c33
            try clear c37
            try clear c40
            try clear c47
            try clear c47b0
            try clear c49
            try clear c50
            try clear c51
            try clear c52
            try clear c53
            try clear c54
            try clear c55
            try clear c56
            try clear c58
            try clear c61
            try clear c61b0
            try clear c62
            try clear c67
            try clear c67b0
            try clear c67b1
            try clear c71
            try clear c81
            try clear c82
            try clear c87
            try clear c88
            try clear c89
            try clear c91
            try clear c94
            try clear c95
            try clear c97
            try clear hcz15_0
            try clear hcz15_1
            try clear hcz15_2
            try clear hcz24_0
            try clear hcz24_1
            try clear hcz24_2
            try clear hcz30_0
            try clear hcz30_1
            try clear hcz30_2
            try clear hcz31_0
            try clear hcz31_1
            try clear hcz31_2
            try clear hcz34_0
            try clear hcz34_1
            try clear hcz34_2
            try clear hcz35_0
            try clear hcz35_1
            try clear hcz35_2
            try clear hcz51_0
            try clear hcz51_1
            try clear hcz51_2
            try clear hcz52_0
            try clear hcz52_1
            try clear hcz52_2
            try clear hcz55_0
            try clear hcz55_1
            try clear hcz55_2
            try clear hcz56_0
            try clear hcz56_1
            try clear hcz56_2
            try clear hcz63_0
            try clear hcz63_1
            try clear hcz63_2
            try clear hcz65_0
            try clear hcz65_1
            try clear hcz65_2
            try clear hcz72_0
            try clear hcz72_1
            try clear hcz72_2
            try clear hcz74_0
            try clear hcz74_1
            try clear hcz74_2
            try clear hcz83_0
            try clear hcz83_1
            try clear hcz83_2
            try clear hcz90_0
            try clear hcz90_1
            try clear hcz90_2
            try clear hcz92_0
            try clear hcz92_1
            try clear hcz92_2
            try clear hcz96_0
            try clear hcz96_1
            try clear hcz96_2
            try clear hcz98_0
            try clear hcz98_1
            try clear hcz98_2
            try clear hfz15_0
            try clear hfz15_1
            try clear hfz15_2
            try clear hfz24_0
            try clear hfz24_1
            try clear hfz24_2
            try clear hfz30_0
            try clear hfz30_1
            try clear hfz30_2
            try clear hfz31_0
            try clear hfz31_1
            try clear hfz31_2
            try clear hfz34_0
            try clear hfz34_1
            try clear hfz34_2
            try clear hfz35_0
            try clear hfz35_1
            try clear hfz35_2
            try clear hfz51_0
            try clear hfz51_1
            try clear hfz51_2
            try clear hfz52_0
            try clear hfz52_1
            try clear hfz52_2
            try clear hfz55_0
            try clear hfz55_1
            try clear hfz55_2
            try clear hfz56_0
            try clear hfz56_1
            try clear hfz56_2
            try clear hfz63_0
            try clear hfz63_1
            try clear hfz63_2
            try clear hfz65_0
            try clear hfz65_1
            try clear hfz65_2
            try clear hfz72_0
            try clear hfz72_1
            try clear hfz72_2
            try clear hfz74_0
            try clear hfz74_1
            try clear hfz74_2
            try clear hfz83_0
            try clear hfz83_1
            try clear hfz83_2
            try clear hfz90_0
            try clear hfz90_1
            try clear hfz90_2
            try clear hfz92_0
            try clear hfz92_1
            try clear hfz92_2
            try clear hfz96_0
            try clear hfz96_1
            try clear hfz96_2
            try clear hfz98_0
            try clear hfz98_1
            try clear hfz98_2
            try clear p2
            obtain ⟨kq, x92_69, rfl, HA, HJ69, HO_278000, HO_278001, HO_278002, HO_292000, HO_292001, HO_292002, HO_319000, HO_319001, HO_319002, BK277, BK291, BK318, HB⟩ := hcut
            have hl292000_69 := (Kd.R_reads' HO_292000.out).1
            rw [hl292000_69] at HO_292000
            (try simp only [hl292000_69])
            (try simp only [hl292000_69] at BK277)
            (try simp only [hl292000_69] at BK291)
            (try simp only [hl292000_69] at BK318)
            (try simp only [hl292000_69] at HO_278000)
            (try simp only [hl292000_69] at HO_278001)
            (try simp only [hl292000_69] at HO_278002)
            (try simp only [hl292000_69] at HO_292001)
            (try simp only [hl292000_69] at HO_292002)
            (try simp only [hl292000_69] at HO_319000)
            (try simp only [hl292000_69] at HO_319001)
            (try simp only [hl292000_69] at HO_319002)
            have hl292001_69 := (Kd.R_reads' HO_292001.out).1
            rw [hl292001_69] at HO_292001
            (try simp only [hl292001_69])
            (try simp only [hl292001_69] at BK277)
            (try simp only [hl292001_69] at BK291)
            (try simp only [hl292001_69] at BK318)
            (try simp only [hl292001_69] at HO_278000)
            (try simp only [hl292001_69] at HO_278001)
            (try simp only [hl292001_69] at HO_278002)
            (try simp only [hl292001_69] at HO_292000)
            (try simp only [hl292001_69] at HO_292002)
            (try simp only [hl292001_69] at HO_319000)
            (try simp only [hl292001_69] at HO_319001)
            (try simp only [hl292001_69] at HO_319002)
            have hl292002_69 := (Kd.R_reads' HO_292002.out).1
            rw [hl292002_69] at HO_292002
            (try simp only [hl292002_69])
            (try simp only [hl292002_69] at BK277)
            (try simp only [hl292002_69] at BK291)
            (try simp only [hl292002_69] at BK318)
            (try simp only [hl292002_69] at HO_278000)
            (try simp only [hl292002_69] at HO_278001)
            (try simp only [hl292002_69] at HO_278002)
            (try simp only [hl292002_69] at HO_292000)
            (try simp only [hl292002_69] at HO_292001)
            (try simp only [hl292002_69] at HO_319000)
            (try simp only [hl292002_69] at HO_319001)
            (try simp only [hl292002_69] at HO_319002)
            cases kq with
            | zero => exact absurd HA.out (by simp [laws_FnExactMachineFor.j2])
            | succ kj69 =>
             have H := HA.out
             clear HA
             simp only [laws_FnExactMachineFor.j2] at H
             by_cases c100 : x92_69 = true
             ·subst c100
              have H1 : (some false) = some r := by rw [if_pos rfl] at H; exact H
              clear H
              have H := H1
              clear H1
              obtain rfl := Option.some.inj H
              go_wp2
              go_ret
              exact ⟨by first | rfl | (simp [errW_none, errW_some] <;> rfl) | (simp [*, errW_none, errW_some] <;> rfl), by repeat (first | (with_reducible first | exact HB.out | apply below_alloc | apply pw_below_drewN | apply below_drew1 | refine below_set ?_ GE277.out | refine below_set ?_ GE291.out | refine below_set ?_ GE318.out) | exact HB.out)⟩
             ·replace c100 := Bool.eq_false_iff.mpr c100
              subst c100
              have H1 : ((laws_heldMachine.f kj69 t301 t302 t303 1).bind fun t320 => (if t320 < 0 then (some false) else (if t320 = t300 then (some true) else (some false)))) = some r := by rw [if_neg (show ¬ (false = true) by decide)] at H; exact H
              clear H
              have H := H1
              clear H1
              replace H := Option.bind_eq_some_iff.mp H
              obtain ⟨t320, A1010, H⟩ := H
              replace H : (if t320 < 0 then (some false) else (if t320 = t300 then (some true) else (some false))) = some r := H
              have A101 := Aside0.mk A1010
              clear A1010
              by_cases c102 : t320 < 0
              ·rw [if_pos c102] at H
               have c102b0 : decide (t320 < 0) = true := decide_eq_true c102
               clear c102
               obtain rfl := Option.some.inj H
               have hnb103 := NB291_277.out
               have hnc103 := NB277_291.out
               have hnb104 := NB291_318.out
               have hnc104 := NB318_291.out
               have hcz105_0 : wc.cell? ⟨gb291, 0, none⟩ = some (.slice Ao22 t301.length co22) := (blk_cell BK291.out 0).trans rfl
               have hcz105_1 : wc.cell? ⟨gb291, 1, none⟩ = some (.slice Ao25 t302.length co25) := (blk_cell BK291.out 1).trans rfl
               have hcz105_2 : wc.cell? ⟨gb291, 2, none⟩ = some (.slice Ao26 t303.length co26) := (blk_cell BK291.out 2).trans rfl
               have hfz105_0 := blk_frozen BK291.out 0
               have hfz105_1 := blk_frozen BK291.out 1
               have hfz105_2 := blk_frozen BK291.out 2
               go_wp2_with (first | ((with_reducible refine gate_callee (f := 23) rfl ?_); refine goesL_ (some 95) rfl rfl Try.func23 (by kernel_rfl) rfl #[.agg #[.slice Ao22 t301.length co22, .slice Ao25 t302.length co25, .slice Ao26 t303.length co26], .int .i64 1] rfl a195_ ?_; (with_reducible refine (laws_heldMachine.calls kj69 _ _ t301 _ _ t302 _ _ t303 1 t320 _ ?side1 ?side2 ?side3 ?side4 ?side5 ?side6 A101.out).mono ?_); (case side1 => exact a247_); (case side2 => exact (Kd.R_reads' HO_292000.out).2.1); (case side3 => exact a248_); (case side4 => exact (Kd.R_reads' HO_292001.out).2.1); (case side5 => exact a249_); (case side6 => exact (Kd.R_reads' HO_292002.out).2.1); rintro e w106 ⟨rfl, hb⟩; refine ⟨_, rfl, ?_⟩; have n0_ := Aside0.mk (Kd.R_below a198_ hb); have n1_ := Aside0.mk (Kd.R_below a199_ hb); have n2_ := Aside0.mk (Kd.R_below a200_ hb); have n3_ := Aside0.mk (Kd.R_below a201_ hb); have n4_ := Aside0.mk (Kd.R_below a202_ hb); have n5_ := Aside0.mk (Kd.R_below a203_ hb); have n6_ := Aside0.mk (Kd.R_below a239_ hb); have n7_ := Aside0.mk (Kd.R_below a240_ hb); have n8_ := Aside0.mk (Kd.R_below a241_ hb); have n9_ := Aside0.mk (blk_below (g := gb277) a196_ hb); have n10_ := Aside0.mk (blk_below (g := gb291) a197_ hb); have n11_ := Aside0.mk (blk_below (g := gb318) a238_ hb); have n12_ := Aside0.mk (below_step a220_ hb); clear HO_278000; clear HO_278001; clear HO_278002; clear HO_292000; clear HO_292001; clear HO_292002; clear HO_319000; clear HO_319001; clear HO_319002; clear BK277; clear BK291; clear BK318; clear HB; have HO_278000 := n0_; have HO_278001 := n1_; have HO_278002 := n2_; have HO_292000 := n3_; have HO_292001 := n4_; have HO_292002 := n5_; have HO_319000 := n6_; have HO_319001 := n7_; have HO_319002 := n8_; have BK277 := n9_; have BK291 := n10_; have BK318 := n11_; have HB := n12_; clear n0_ n1_ n2_ n3_ n4_ n5_ n6_ n7_ n8_ n9_ n10_ n11_ n12_; (try clear hb); (try clear hb2); (try clear hk); (try clear hi)))
               go_ret
               exact ⟨by first | rfl | (simp [errW_none, errW_some] <;> rfl) | (simp [*, errW_none, errW_some] <;> rfl), by repeat (first | (with_reducible first | exact HB.out | apply below_alloc | apply pw_below_drewN | apply below_drew1 | refine below_set ?_ GE277.out | refine below_set ?_ GE291.out | refine below_set ?_ GE318.out) | exact HB.out)⟩
              ·rw [if_neg c102] at H
               have c102b0 : decide (t320 < 0) = false := decide_eq_false c102
               clear c102
               by_cases c107 : t320 = t300
               ·rw [if_pos c107] at H
                have c107b0 : (t320 == t300) = true := beq_iff_eq.mpr c107
                have c107b1 : (t320 != t300) = false := bne_eq_false_iff_eq.mpr c107
                clear c107
                obtain rfl := Option.some.inj H
                have hnb108 := NB291_277.out
                have hnc108 := NB277_291.out
                have hnb109 := NB291_318.out
                have hnc109 := NB318_291.out
                have hcz110_0 : wc.cell? ⟨gb291, 0, none⟩ = some (.slice Ao22 t301.length co22) := (blk_cell BK291.out 0).trans rfl
                have hcz110_1 : wc.cell? ⟨gb291, 1, none⟩ = some (.slice Ao25 t302.length co25) := (blk_cell BK291.out 1).trans rfl
                have hcz110_2 : wc.cell? ⟨gb291, 2, none⟩ = some (.slice Ao26 t303.length co26) := (blk_cell BK291.out 2).trans rfl
                have hfz110_0 := blk_frozen BK291.out 0
                have hfz110_1 := blk_frozen BK291.out 1
                have hfz110_2 := blk_frozen BK291.out 2
                go_wp2_with (first | ((with_reducible refine gate_callee (f := 23) rfl ?_); refine goesL_ (some 95) rfl rfl Try.func23 (by kernel_rfl) rfl #[.agg #[.slice Ao22 t301.length co22, .slice Ao25 t302.length co25, .slice Ao26 t303.length co26], .int .i64 1] rfl a195_ ?_; (with_reducible refine (laws_heldMachine.calls kj69 _ _ t301 _ _ t302 _ _ t303 1 t320 _ ?side1 ?side2 ?side3 ?side4 ?side5 ?side6 A101.out).mono ?_); (case side1 => exact a247_); (case side2 => exact (Kd.R_reads' HO_292000.out).2.1); (case side3 => exact a248_); (case side4 => exact (Kd.R_reads' HO_292001.out).2.1); (case side5 => exact a249_); (case side6 => exact (Kd.R_reads' HO_292002.out).2.1); rintro e w111 ⟨rfl, hb⟩; refine ⟨_, rfl, ?_⟩; have n0_ := Aside0.mk (Kd.R_below a198_ hb); have n1_ := Aside0.mk (Kd.R_below a199_ hb); have n2_ := Aside0.mk (Kd.R_below a200_ hb); have n3_ := Aside0.mk (Kd.R_below a201_ hb); have n4_ := Aside0.mk (Kd.R_below a202_ hb); have n5_ := Aside0.mk (Kd.R_below a203_ hb); have n6_ := Aside0.mk (Kd.R_below a239_ hb); have n7_ := Aside0.mk (Kd.R_below a240_ hb); have n8_ := Aside0.mk (Kd.R_below a241_ hb); have n9_ := Aside0.mk (blk_below (g := gb277) a196_ hb); have n10_ := Aside0.mk (blk_below (g := gb291) a197_ hb); have n11_ := Aside0.mk (blk_below (g := gb318) a238_ hb); have n12_ := Aside0.mk (below_step a220_ hb); clear HO_278000; clear HO_278001; clear HO_278002; clear HO_292000; clear HO_292001; clear HO_292002; clear HO_319000; clear HO_319001; clear HO_319002; clear BK277; clear BK291; clear BK318; clear HB; have HO_278000 := n0_; have HO_278001 := n1_; have HO_278002 := n2_; have HO_292000 := n3_; have HO_292001 := n4_; have HO_292002 := n5_; have HO_319000 := n6_; have HO_319001 := n7_; have HO_319002 := n8_; have BK277 := n9_; have BK291 := n10_; have BK318 := n11_; have HB := n12_; clear n0_ n1_ n2_ n3_ n4_ n5_ n6_ n7_ n8_ n9_ n10_ n11_ n12_; (try clear hb); (try clear hb2); (try clear hk); (try clear hi)))
                go_ret
                exact ⟨by first | rfl | (simp [errW_none, errW_some] <;> rfl) | (simp [*, errW_none, errW_some] <;> rfl), by repeat (first | (with_reducible first | exact HB.out | apply below_alloc | apply pw_below_drewN | apply below_drew1 | refine below_set ?_ GE277.out | refine below_set ?_ GE291.out | refine below_set ?_ GE318.out) | exact HB.out)⟩
               ·rw [if_neg c107] at H
                have c107b0 : (t320 == t300) = false := beq_eq_false_iff_ne.mpr c107
                have c107b1 : (t320 != t300) = true := bne_iff_ne.mpr c107
                obtain rfl := Option.some.inj H
                have hnb112 := NB291_277.out
                have hnc112 := NB277_291.out
                have hnb113 := NB291_318.out
                have hnc113 := NB318_291.out
                have hcz114_0 : wc.cell? ⟨gb291, 0, none⟩ = some (.slice Ao22 t301.length co22) := (blk_cell BK291.out 0).trans rfl
                have hcz114_1 : wc.cell? ⟨gb291, 1, none⟩ = some (.slice Ao25 t302.length co25) := (blk_cell BK291.out 1).trans rfl
                have hcz114_2 : wc.cell? ⟨gb291, 2, none⟩ = some (.slice Ao26 t303.length co26) := (blk_cell BK291.out 2).trans rfl
                have hfz114_0 := blk_frozen BK291.out 0
                have hfz114_1 := blk_frozen BK291.out 1
                have hfz114_2 := blk_frozen BK291.out 2
                go_wp2_with (first | ((with_reducible refine gate_callee (f := 23) rfl ?_); refine goesL_ (some 95) rfl rfl Try.func23 (by kernel_rfl) rfl #[.agg #[.slice Ao22 t301.length co22, .slice Ao25 t302.length co25, .slice Ao26 t303.length co26], .int .i64 1] rfl a195_ ?_; (with_reducible refine (laws_heldMachine.calls kj69 _ _ t301 _ _ t302 _ _ t303 1 t320 _ ?side1 ?side2 ?side3 ?side4 ?side5 ?side6 A101.out).mono ?_); (case side1 => exact a247_); (case side2 => exact (Kd.R_reads' HO_292000.out).2.1); (case side3 => exact a248_); (case side4 => exact (Kd.R_reads' HO_292001.out).2.1); (case side5 => exact a249_); (case side6 => exact (Kd.R_reads' HO_292002.out).2.1); rintro e w115 ⟨rfl, hb⟩; refine ⟨_, rfl, ?_⟩; have n0_ := Aside0.mk (Kd.R_below a198_ hb); have n1_ := Aside0.mk (Kd.R_below a199_ hb); have n2_ := Aside0.mk (Kd.R_below a200_ hb); have n3_ := Aside0.mk (Kd.R_below a201_ hb); have n4_ := Aside0.mk (Kd.R_below a202_ hb); have n5_ := Aside0.mk (Kd.R_below a203_ hb); have n6_ := Aside0.mk (Kd.R_below a239_ hb); have n7_ := Aside0.mk (Kd.R_below a240_ hb); have n8_ := Aside0.mk (Kd.R_below a241_ hb); have n9_ := Aside0.mk (blk_below (g := gb277) a196_ hb); have n10_ := Aside0.mk (blk_below (g := gb291) a197_ hb); have n11_ := Aside0.mk (blk_below (g := gb318) a238_ hb); have n12_ := Aside0.mk (below_step a220_ hb); clear HO_278000; clear HO_278001; clear HO_278002; clear HO_292000; clear HO_292001; clear HO_292002; clear HO_319000; clear HO_319001; clear HO_319002; clear BK277; clear BK291; clear BK318; clear HB; have HO_278000 := n0_; have HO_278001 := n1_; have HO_278002 := n2_; have HO_292000 := n3_; have HO_292001 := n4_; have HO_292002 := n5_; have HO_319000 := n6_; have HO_319001 := n7_; have HO_319002 := n8_; have BK277 := n9_; have BK291 := n10_; have BK318 := n11_; have HB := n12_; clear n0_ n1_ n2_ n3_ n4_ n5_ n6_ n7_ n8_ n9_ n10_ n11_ n12_; (try clear hb); (try clear hb2); (try clear hk); (try clear hi)))
                go_ret
                exact ⟨by first | rfl | (simp [errW_none, errW_some] <;> rfl) | (simp [*, errW_none, errW_some] <;> rfl), by repeat (first | (with_reducible first | exact HB.out | apply below_alloc | apply pw_below_drewN | apply below_drew1 | refine below_set ?_ GE277.out | refine below_set ?_ GE291.out | refine below_set ?_ GE318.out) | exact HB.out)⟩
          ·rw [if_neg c67] at H
           have c67b0 : (t304 == t300) = false := beq_eq_false_iff_ne.mpr c67
           have c67b1 : (t304 != t300) = true := bne_iff_ne.mpr c67
           obtain rfl := Option.some.inj H
           have hnb116 := NB291_277.out
           have hnc116 := NB277_291.out
           have hcz117_0 : wc.cell? ⟨gb291, 0, none⟩ = some (.slice Ao22 t281.length co22) := (blk_cell BK291.out 0).trans rfl
           have hcz117_1 : wc.cell? ⟨gb291, 1, none⟩ = some (.slice Ao25 t284.length co25) := (blk_cell BK291.out 1).trans rfl
           have hcz117_2 : wc.cell? ⟨gb291, 2, none⟩ = some (.slice Ao26 t287.length co26) := (blk_cell BK291.out 2).trans rfl
           have hfz117_0 := blk_frozen BK291.out 0
           have hfz117_1 := blk_frozen BK291.out 1
           have hfz117_2 := blk_frozen BK291.out 2
           go_wp2_with (first | ((with_reducible refine gate_callee (f := 22) rfl ?_); refine goesL_ (some 68) rfl rfl Try.func22 (by kernel_rfl) rfl #[.agg #[.slice Ao22 t281.length co22, .slice Ao25 t284.length co25, .slice Ao26 t287.length co26], .int .i64 1] rfl a195_ ?_; (with_reducible refine (laws_markMachine.calls kj41 (fun k_ => some k_ = (.slice Ao22 t281.length co22 : Value).ownBlock) (.slice Ao22 t281.length co22) t281 (fun k_ => some k_ = (.slice Ao25 t284.length co25 : Value).ownBlock) (.slice Ao25 t284.length co25) t284 (fun k_ => some k_ = (.slice Ao26 t287.length co26 : Value).ownBlock) (.slice Ao26 t287.length co26) t287 1 t300 t301 t302 t303 w _ ?side1 ?side2 ?side3 ?side4 ?side5 ?side6 ?side7 ?side8 ?side9 ?side10 A59.out).mono ?_); (case side1 => exact a250_); (case side2 => exact Kd.R_tight rfl HO_292000.out); (case side3 => exact fun k_ e_ => (HO_292000.out.1 k_ e_.symm).2.2.2.1); (case side4 => exact fun k_ e_ => (HO_292000.out.1 k_ e_.symm).2.2.2.2); (case side5 => exact Kd.R_tight rfl HO_292001.out); (case side6 => exact fun k_ e_ => (HO_292001.out.1 k_ e_.symm).2.2.2.1); (case side7 => exact fun k_ e_ => (HO_292001.out.1 k_ e_.symm).2.2.2.2); (case side8 => exact Kd.R_tight rfl HO_292002.out); (case side9 => exact fun k_ e_ => (HO_292002.out.1 k_ e_.symm).2.2.2.1); (case side10 => exact fun k_ e_ => (HO_292002.out.1 k_ e_.symm).2.2.2.2); rintro e w118 ⟨rfl, hy0, hy1, hy2, hb, hkp⟩; refine ⟨_, rfl, ?_⟩; have n0_ := Aside0.mk (Kd.R_mono (ok' := fun k_ => nbk k_ Ao16 t270.length co16 ∧ nbk k_ Ao17 t273.length co17 ∧ nbk k_ Ao22 t281.length co22 ∧ nbk k_ Ao25 t284.length co25 ∧ nbk k_ Ao26 t287.length co26) (Kd.R_keptB (HO_278000.out) hkp (fun k_ hk_ hs_ => Or.elim hs_ (fun e_ => (hk_.2.2.1) e_) (fun e_ => Or.elim e_ (fun e_ => (hk_.2.2.2.1) e_) (fun e_ => (hk_.2.2.2.2) e_)))) (fun k_ hk_ => ⟨hk_.1.1, hk_.1.2.1, hk_.1.2.2.1, hk_.1.2.2.2.1, hk_.1.2.2.2.2⟩)); have n1_ := Aside0.mk (Kd.R_mono (ok' := fun k_ => nbk k_ Ao14 t267.length co14 ∧ nbk k_ Ao17 t273.length co17 ∧ nbk k_ Ao22 t281.length co22 ∧ nbk k_ Ao25 t284.length co25 ∧ nbk k_ Ao26 t287.length co26) (Kd.R_keptB (HO_278001.out) hkp (fun k_ hk_ hs_ => Or.elim hs_ (fun e_ => (hk_.2.2.1) e_) (fun e_ => Or.elim e_ (fun e_ => (hk_.2.2.2.1) e_) (fun e_ => (hk_.2.2.2.2) e_)))) (fun k_ hk_ => ⟨hk_.1.1, hk_.1.2.1, hk_.1.2.2.1, hk_.1.2.2.2.1, hk_.1.2.2.2.2⟩)); have n2_ := Aside0.mk (Kd.R_mono (ok' := fun k_ => nbk k_ Ao14 t267.length co14 ∧ nbk k_ Ao16 t270.length co16 ∧ nbk k_ Ao22 t281.length co22 ∧ nbk k_ Ao25 t284.length co25 ∧ nbk k_ Ao26 t287.length co26) (Kd.R_keptB (HO_278002.out) hkp (fun k_ hk_ hs_ => Or.elim hs_ (fun e_ => (hk_.2.2.1) e_) (fun e_ => Or.elim e_ (fun e_ => (hk_.2.2.2.1) e_) (fun e_ => (hk_.2.2.2.2) e_)))) (fun k_ hk_ => ⟨hk_.1.1, hk_.1.2.1, hk_.1.2.2.1, hk_.1.2.2.2.1, hk_.1.2.2.2.2⟩)); have n3_ := Aside0.mk (Kd.R_reok rfl hy0 (fun k_ e_ => HO_292000.out.1 k_ e_)); have n4_ := Aside0.mk (Kd.R_reok rfl hy1 (fun k_ e_ => HO_292001.out.1 k_ e_)); have n5_ := Aside0.mk (Kd.R_reok rfl hy2 (fun k_ e_ => HO_292002.out.1 k_ e_)); have n6_ := Aside0.mk (blk_kept a196_ hkp (fun hs_ => Or.elim hs_ (fun e_ => (fun e_ => (Kd.R_ne HO_292000.out BK277.out (by decide)) e_) e_) (fun e_ => Or.elim e_ (fun e_ => (fun e_ => (Kd.R_ne HO_292001.out BK277.out (by decide)) e_) e_) (fun e_ => (fun e_ => (Kd.R_ne HO_292002.out BK277.out (by decide)) e_) e_)))); have n7_ := Aside0.mk (blk_kept a197_ hkp (fun hs_ => Or.elim hs_ (fun e_ => (fun e_ => (Kd.R_ne HO_292000.out BK291.out (by decide)) e_) e_) (fun e_ => Or.elim e_ (fun e_ => (fun e_ => (Kd.R_ne HO_292001.out BK291.out (by decide)) e_) e_) (fun e_ => (fun e_ => (Kd.R_ne HO_292002.out BK291.out (by decide)) e_) e_)))); have n8_ := Aside0.mk (hb); clear HO_278000; clear HO_278001; clear HO_278002; clear HO_292000; clear HO_292001; clear HO_292002; clear BK277; clear BK291; clear HB; have HO_278000 := n0_; have HO_278001 := n1_; have HO_278002 := n2_; have HO_292000 := n3_; have HO_292001 := n4_; have HO_292002 := n5_; have BK277 := n6_; have BK291 := n7_; have HB := n8_; clear n0_ n1_ n2_ n3_ n4_ n5_ n6_ n7_ n8_; (try clear hb); (try clear hkp); (try clear hy0); (try clear hy1); (try clear hy2); have hcz119_0 : w118.cell? ⟨gb291, 0, none⟩ = some (.slice Ao22 t281.length co22) := (blk_cell BK291.out 0).trans rfl; have hcz119_1 : w118.cell? ⟨gb291, 1, none⟩ = some (.slice Ao25 t284.length co25) := (blk_cell BK291.out 1).trans rfl; have hcz119_2 : w118.cell? ⟨gb291, 2, none⟩ = some (.slice Ao26 t287.length co26) := (blk_cell BK291.out 2).trans rfl; have hfz119_0 := blk_frozen BK291.out 0; have hfz119_1 := blk_frozen BK291.out 1; have hfz119_2 := blk_frozen BK291.out 2) | ((with_reducible refine gate_callee (f := 23) rfl ?_); refine goesL_ (some 71) rfl rfl Try.func23 (by kernel_rfl) rfl #[.agg #[.slice Ao22 t301.length co22, .slice Ao25 t302.length co25, .slice Ao26 t303.length co26], .int .i64 1] rfl a221_ ?_; (with_reducible refine (laws_heldMachine.calls kj41 _ _ t301 _ _ t302 _ _ t303 1 t304 _ ?side1 ?side2 ?side3 ?side4 ?side5 ?side6 A60.out).mono ?_); (case side1 => exact a247_); (case side2 => exact a270_); (case side3 => exact a248_); (case side4 => exact a271_); (case side5 => exact a249_); (case side6 => exact a272_); rintro e w120 ⟨rfl, hb⟩; refine ⟨_, rfl, ?_⟩; have n0_ := Aside0.mk (Kd.R_below a198_ hb); have n1_ := Aside0.mk (Kd.R_below a199_ hb); have n2_ := Aside0.mk (Kd.R_below a200_ hb); have n3_ := Aside0.mk (Kd.R_below a201_ hb); have n4_ := Aside0.mk (Kd.R_below a202_ hb); have n5_ := Aside0.mk (Kd.R_below a203_ hb); have n6_ := Aside0.mk (blk_below (g := gb277) a196_ hb); have n7_ := Aside0.mk (blk_below (g := gb291) a197_ hb); have n8_ := Aside0.mk (below_step a194_ hb); clear HO_278000; clear HO_278001; clear HO_278002; clear HO_292000; clear HO_292001; clear HO_292002; clear BK277; clear BK291; clear HB; have HO_278000 := n0_; have HO_278001 := n1_; have HO_278002 := n2_; have HO_292000 := n3_; have HO_292001 := n4_; have HO_292002 := n5_; have BK277 := n6_; have BK291 := n7_; have HB := n8_; clear n0_ n1_ n2_ n3_ n4_ n5_ n6_ n7_ n8_; (try clear hb); (try clear hb2); (try clear hk); (try clear hi)))
           go_ret
           exact ⟨by first | rfl | (simp [errW_none, errW_some] <;> rfl) | (simp [*, errW_none, errW_some] <;> rfl), by repeat (first | (with_reducible first | exact HB.out | apply below_alloc | apply pw_below_drewN | apply below_drew1 | refine below_set ?_ GE277.out | refine below_set ?_ GE291.out) | exact HB.out)⟩
     ·replace c40 := Bool.eq_false_iff.mpr c40
      subst c40
      have H1 : (some false) = some r := by rw [if_neg (show ¬ (false = true) by decide)] at H; exact H
      clear H
      have H := H1
      clear H1
      obtain rfl := Option.some.inj H
      go_wp2_with (first | ((with_reducible refine gate_callee (f := 53) rfl ?_); refine goesL_ (some 47) rfl rfl Try.func53 (by kernel_rfl) rfl #[.slice A0 l0.length c0] rfl a195_ ?_; (with_reducible refine (laws_toStopS.calls kj8 _ _ l0 t293 _ ?side1 ?side2 A38.out).mono ?_); (case side1 => exact a263_); (case side2 => exact HC0.out); rintro e w121 ⟨v294, rfl, ho0, hb⟩; refine ⟨_, rfl, ?_⟩; have n0_ := Aside0.mk (Kd.R_elder' a232_ (Kd.R_base ho0) hb); have n1_ := Aside0.mk (Kd.R_below a198_ hb); have n2_ := Aside0.mk (Kd.R_below a199_ hb); have n3_ := Aside0.mk (Kd.R_below a200_ hb); have n4_ := Aside0.mk (Kd.R_below a201_ hb); have n5_ := Aside0.mk (Kd.R_below a202_ hb); have n6_ := Aside0.mk (Kd.R_below a203_ hb); have n7_ := Aside0.mk (Kd.R_lower (Kd.R_new' ho0 (Kd.R_lt a232_)) (below_size a194_)); have n8_ := Aside0.mk (blk_below (g := gb277) a196_ hb); have n9_ := Aside0.mk (blk_below (g := gb291) a197_ hb); have n10_ := Aside0.mk (below_step a194_ hb); clear HO_8; clear HO_278000; clear HO_278001; clear HO_278002; clear HO_292000; clear HO_292001; clear HO_292002; clear BK277; clear BK291; clear HB; have HO_8 := n0_; have HO_278000 := n1_; have HO_278001 := n2_; have HO_278002 := n3_; have HO_292000 := n4_; have HO_292001 := n5_; have HO_292002 := n6_; have HO295 := n7_; have BK277 := n8_; have BK291 := n9_; have HB := n10_; clear n0_ n1_ n2_ n3_ n4_ n5_ n6_ n7_ n8_ n9_ n10_; (try clear hb); (try clear hb2); (try clear hk); (try clear hi); (try clear ho0); obtain ⟨Ao122, co122, eo122⟩ := Kd.R_slice HO295.out; subst eo122) | ((with_reducible refine gate_callee (f := 55) rfl ?_); refine goesL_ (some 48) rfl rfl Try.func55 (by kernel_rfl) rfl #[.slice Ao19 t278.length co19, .slice Ao122 t293.length co122] rfl a195_ ?_; (with_reducible refine (laws_eqStopS.calls kj8 _ _ t278 _ _ t293 false _ ?side1 ?side2 ?side3 ?side4 A39.out).mono ?_); (case side1 => exact a269_); (case side2 => exact (Kd.R_reads' HO_8.out).2.1); (case side3 => exact a268_); (case side4 => exact (Kd.R_reads' HO295.out).2.1); rintro e w123 ⟨rfl, hb⟩; refine ⟨_, rfl, ?_⟩; have n0_ := Aside0.mk (Kd.R_below a232_ hb); have n1_ := Aside0.mk (Kd.R_below a198_ hb); have n2_ := Aside0.mk (Kd.R_below a199_ hb); have n3_ := Aside0.mk (Kd.R_below a200_ hb); have n4_ := Aside0.mk (Kd.R_below a201_ hb); have n5_ := Aside0.mk (Kd.R_below a202_ hb); have n6_ := Aside0.mk (Kd.R_below a203_ hb); have n7_ := Aside0.mk (Kd.R_below a237_ hb); have n8_ := Aside0.mk (blk_below (g := gb277) a196_ hb); have n9_ := Aside0.mk (blk_below (g := gb291) a197_ hb); have n10_ := Aside0.mk (below_step a194_ hb); clear HO_8; clear HO_278000; clear HO_278001; clear HO_278002; clear HO_292000; clear HO_292001; clear HO_292002; clear HO295; clear BK277; clear BK291; clear HB; have HO_8 := n0_; have HO_278000 := n1_; have HO_278001 := n2_; have HO_278002 := n3_; have HO_292000 := n4_; have HO_292001 := n5_; have HO_292002 := n6_; have HO295 := n7_; have BK277 := n8_; have BK291 := n9_; have HB := n10_; clear n0_ n1_ n2_ n3_ n4_ n5_ n6_ n7_ n8_ n9_ n10_; (try clear hb); (try clear hb2); (try clear hk); (try clear hi)))
      go_ret
      exact ⟨by first | rfl | (simp [errW_none, errW_some] <;> rfl) | (simp [*, errW_none, errW_some] <;> rfl), by repeat (first | (with_reducible first | exact HB.out | apply below_alloc | apply pw_below_drewN | apply below_drew1 | refine below_set ?_ GE277.out | refine below_set ?_ GE291.out) | exact HB.out)⟩

end Go.Proofs.Ytnjcmalmnofbmaa.XFnExactMachineFor
