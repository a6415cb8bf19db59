/- Printed by this repository's own program (wip/tools/xprint.py) for the law FnExactReverseProgram: Lean functions that say what the Go functions compute, and the proofs that the machine comes to just that; no condition beyond those in each statement. -/
import Derived.Test.YtnjcmalmnofbmaaXFnExactReverseProgramx0
import Derived.Test.YtnjcmalmnofbmaaXFnExactReverseProgramx1
import Derived.Test.YtnjcmalmnofbmaaXFnExactReverseProgramx4
import Derived.Test.YtnjcmalmnofbmaaXFnExactReverseProgramx5
namespace Go.Proofs.Ytnjcmalmnofbmaa.XFnExactReverseProgram
open Go.RowKit Go.Proofs.YtnjcmalmnofbmaaW.PrintWords Go.Proofs.YtnjcmalmnofbmaaW.PrintLast Go.Proofs.YtnjcmalmnofbmaaW.PrintMore
attribute [local go_sem] max2_int min2_int max_two min_two max_three min_three max_four min_four   -- for this text's walks alone
set_option linter.unusedVariables false
set_option linter.unusedSimpArgs false

set_option maxHeartbeats 8000000 in
set_option maxRecDepth 100000 in
theorem laws_FnExactReverseProgram.calls (k : Nat) (a0_0 : Int) (A0_1 : Option Addr) (c0_1 : Nat) (l0_1 : List (S176)) (r : Bool) (w : World) (hr0_1 : Kd.C k176 w A0_1 l0_1.length l0_1) (hc0_1 : l0_1.length ≤ c0_1) (h : laws_FnExactReverseProgram.f k a0_0 l0_1 = some r) :
    Calls Try.prog 7 #[.agg #[.int .i16 a0_0, .slice A0_1 l0_1.length c0_1]] w fun e w' => e = .returned (.bool r) ∧ Below w.heap.size w w' := by
 have hu41 := Try.underlying41
 have hu45 := Try.underlying45
 have HR0_1 := Aside0.mk hr0_1
 have HC0_1 := Aside0.mk hc0_1
 clear hr0_1 hc0_1
 have HB := Aside0.mk (Below.refl w.heap.size w)
 have H : ((laws_szProgram.f a0_0 l0_1 1048576).bind fun t173 => (if t173 < 0 then (some true) else ((laws_toProgram.f k a0_0 l0_1).bind fun bt174 => ((spec_ReverseProgram.f k bt174.1 bt174.2).bind fun bt178 => ((laws_toProgram.f k a0_0 l0_1).bind fun bt184 => ((impl_ReverseProgram.f k bt184.1 bt184.2).bind fun bt189 => ((laws_eqProgram.f k bt189.1 bt189.2.1 bt178.1 bt178.2.1).bind fun t195 => (if t195 = true then (laws_FnExactReverseProgram.j0 k bt178.2.2 bt189.2.2 (bt189.2.2 != bt178.2.2) a0_0 l0_1 bt178.1 bt178.2.1 bt184.1 bt184.2 bt189.1 bt189.2.1) else (laws_FnExactReverseProgram.j0 k bt178.2.2 bt189.2.2 true a0_0 l0_1 bt178.1 bt178.2.1 bt184.1 bt184.2 bt189.1 bt189.2.1))))))))) = some r := h
 clear h
 replace H := Option.bind_eq_some_iff.mp H
 obtain ⟨t173, A20, H⟩ := H
 replace H : (if t173 < 0 then (some true) else ((laws_toProgram.f k a0_0 l0_1).bind fun bt174 => ((spec_ReverseProgram.f k bt174.1 bt174.2).bind fun bt178 => ((laws_toProgram.f k a0_0 l0_1).bind fun bt184 => ((impl_ReverseProgram.f k bt184.1 bt184.2).bind fun bt189 => ((laws_eqProgram.f k bt189.1 bt189.2.1 bt178.1 bt178.2.1).bind fun t195 => (if t195 = true then (laws_FnExactReverseProgram.j0 k bt178.2.2 bt189.2.2 (bt189.2.2 != bt178.2.2) a0_0 l0_1 bt178.1 bt178.2.1 bt184.1 bt184.2 bt189.1 bt189.2.1) else (laws_FnExactReverseProgram.j0 k bt178.2.2 bt189.2.2 true a0_0 l0_1 bt178.1 bt178.2.1 bt184.1 bt184.2 bt189.1 bt189.2.1)))))))) = some r := H
 have A2 := Aside0.mk A20
 clear A20
 by_cases c3 : t173 < 0
 ·rw [if_pos c3] at H
  have c3b0 : decide (t173 < 0) = true := decide_eq_true c3
  clear c3
  obtain rfl := Option.some.inj H
  go_enter Try.func7, Try.ntmps7
  go_wp2_with (first | ((with_reducible refine gate_dst (N := 1) rfl ?_); refine box_event ?hg (N := 1) ?hd (cs := #[.int .i16 a0_0, .slice A0_1 l0_1.length c0_1]) (t := 41) ?hr ?_; (case hd => rfl); (case hg => rfl); (case hr => exact a62_); intro gb172 hg w4 hbox hb; have n0_ := Aside0.mk (below_step a21_ hb); have n1_ := Aside0.mk (hbox); have n2_ := Aside0.mk ((by rw [hg]; exact (below_size a21_) : w.heap.size ≤ gb172)); have n3_ := Aside0.mk ((by rw [hg]; exact (below_size a21_) : w.heap.size ≤ gb172)); clear HB; have HB := n0_; have BK172 := n1_; have GW172 := n2_; have GE172 := n3_; clear n0_ n1_ n2_ n3_; clear hb hbox hg; have hcz5_0 : w4.cell? ⟨gb172, 0, none⟩ = some (.int .i16 a0_0) := (blk_cell BK172.out 0).trans rfl; have hcz5_1 : w4.cell? ⟨gb172, 1, none⟩ = some (.slice A0_1 l0_1.length c0_1) := (blk_cell BK172.out 1).trans rfl; have hfz5_0 := blk_frozen BK172.out 0; have hfz5_1 := blk_frozen BK172.out 1) | ((with_reducible refine gate_callee (f := 28) rfl ?_); refine goesL_ (some 16) rfl rfl Try.func28 (by kernel_rfl) rfl #[.agg #[.int .i16 a0_0, .slice A0_1 l0_1.length c0_1], .int .i64 1048576] rfl a3_ ?_; (with_reducible refine (laws_szProgram.calls a0_0 _ _ l0_1 1048576 t173 _ ?side1 ?side2 A2.out).mono ?_); (case side1 => exact a52_); (case side2 => exact HC0_1.out); rintro e w6 ⟨rfl, hb⟩; refine ⟨_, rfl, ?_⟩; have n0_ := Aside0.mk (blk_below (g := gb172) a2_ hb); have n1_ := Aside0.mk (below_step a10_ hb); clear BK172; clear HB; have BK172 := n0_; have HB := n1_; clear n0_ n1_; (try clear hb); (try clear hb2); (try clear hk); (try clear hi)))
  go_ret
  exact ⟨by first | rfl | (simp [errW_none, errW_some] <;> rfl) | (simp [*, errW_none, errW_some] <;> rfl), by repeat (first | (with_reducible first | exact HB.out | apply below_alloc | apply pw_below_drewN | apply below_drew1 | refine below_set ?_ GE172.out) | exact HB.out)⟩
 ·rw [if_neg c3] at H
  have c3b0 : decide (t173 < 0) = false := decide_eq_false c3
  clear c3
  replace H := Option.bind_eq_some_iff.mp H
  obtain ⟨⟨t174, t175⟩, A70, H⟩ := H
  replace H : ((spec_ReverseProgram.f k t174 t175).bind fun bt178 => ((laws_toProgram.f k a0_0 l0_1).bind fun bt184 => ((impl_ReverseProgram.f k bt184.1 bt184.2).bind fun bt189 => ((laws_eqProgram.f k bt189.1 bt189.2.1 bt178.1 bt178.2.1).bind fun t195 => (if t195 = true then (laws_FnExactReverseProgram.j0 k bt178.2.2 bt189.2.2 (bt189.2.2 != bt178.2.2) a0_0 l0_1 bt178.1 bt178.2.1 bt184.1 bt184.2 bt189.1 bt189.2.1) else (laws_FnExactReverseProgram.j0 k bt178.2.2 bt189.2.2 true a0_0 l0_1 bt178.1 bt178.2.1 bt184.1 bt184.2 bt189.1 bt189.2.1)))))) = some r := H
  have A7 := Aside0.mk A70
  clear A70
  replace H := Option.bind_eq_some_iff.mp H
  obtain ⟨⟨t178, t179, t182⟩, A80, H⟩ := H
  replace H : ((laws_toProgram.f k a0_0 l0_1).bind fun bt184 => ((impl_ReverseProgram.f k bt184.1 bt184.2).bind fun bt189 => ((laws_eqProgram.f k bt189.1 bt189.2.1 t178 t179).bind fun t195 => (if t195 = true then (laws_FnExactReverseProgram.j0 k t182 bt189.2.2 (bt189.2.2 != t182) a0_0 l0_1 t178 t179 bt184.1 bt184.2 bt189.1 bt189.2.1) else (laws_FnExactReverseProgram.j0 k t182 bt189.2.2 true a0_0 l0_1 t178 t179 bt184.1 bt184.2 bt189.1 bt189.2.1))))) = some r := H
  have A8 := Aside0.mk A80
  clear A80
  replace H := Option.bind_eq_some_iff.mp H
  obtain ⟨⟨t184, t185⟩, A90, H⟩ := H
  replace H : ((impl_ReverseProgram.f k t184 t185).bind fun bt189 => ((laws_eqProgram.f k bt189.1 bt189.2.1 t178 t179).bind fun t195 => (if t195 = true then (laws_FnExactReverseProgram.j0 k t182 bt189.2.2 (bt189.2.2 != t182) a0_0 l0_1 t178 t179 t184 t185 bt189.1 bt189.2.1) else (laws_FnExactReverseProgram.j0 k t182 bt189.2.2 true a0_0 l0_1 t178 t179 t184 t185 bt189.1 bt189.2.1)))) = some r := H
  have A9 := Aside0.mk A90
  clear A90
  replace H := Option.bind_eq_some_iff.mp H
  obtain ⟨⟨t189, t190, t193⟩, A100, H⟩ := H
  replace H : ((laws_eqProgram.f k t189 t190 t178 t179).bind fun t195 => (if t195 = true then (laws_FnExactReverseProgram.j0 k t182 t193 (t193 != t182) a0_0 l0_1 t178 t179 t184 t185 t189 t190) else (laws_FnExactReverseProgram.j0 k t182 t193 true a0_0 l0_1 t178 t179 t184 t185 t189 t190))) = some r := H
  have A10 := Aside0.mk A100
  clear A100
  have HC11 := Aside0.mk H
  clear H
  go_enter Try.func7, Try.ntmps7
  go_upto_region 8 with (first | ((with_reducible refine gate_dst (N := 1) rfl ?_); refine box_event ?hg (N := 1) ?hd (cs := #[.int .i16 a0_0, .slice A0_1 l0_1.length c0_1]) (t := 41) ?hr ?_; (case hd => rfl); (case hg => rfl); (case hr => exact a62_); intro gb172 hg w12 hbox hb; have n0_ := Aside0.mk (below_step a21_ hb); have n1_ := Aside0.mk (hbox); have n2_ := Aside0.mk ((by rw [hg]; exact (below_size a21_) : w.heap.size ≤ gb172)); have n3_ := Aside0.mk ((by rw [hg]; exact (below_size a21_) : w.heap.size ≤ gb172)); clear HB; have HB := n0_; have BK172 := n1_; have GW172 := n2_; have GE172 := n3_; clear n0_ n1_ n2_ n3_; clear hb hbox hg; have hcz13_0 : w12.cell? ⟨gb172, 0, none⟩ = some (.int .i16 a0_0) := (blk_cell BK172.out 0).trans rfl; have hcz13_1 : w12.cell? ⟨gb172, 1, none⟩ = some (.slice A0_1 l0_1.length c0_1) := (blk_cell BK172.out 1).trans rfl; have hfz13_0 := blk_frozen BK172.out 0; have hfz13_1 := blk_frozen BK172.out 1) | ((with_reducible refine gate_callee (f := 28) rfl ?_); refine goesL_ (some 16) rfl rfl Try.func28 (by kernel_rfl) rfl #[.agg #[.int .i16 a0_0, .slice A0_1 l0_1.length c0_1], .int .i64 1048576] rfl a3_ ?_; (with_reducible refine (laws_szProgram.calls a0_0 _ _ l0_1 1048576 t173 _ ?side1 ?side2 A2.out).mono ?_); (case side1 => exact a52_); (case side2 => exact HC0_1.out); rintro e w14 ⟨rfl, hb⟩; refine ⟨_, rfl, ?_⟩; have n0_ := Aside0.mk (blk_below (g := gb172) a2_ hb); have n1_ := Aside0.mk (below_step a10_ hb); clear BK172; clear HB; have BK172 := n0_; have HB := n1_; clear n0_ n1_; (try clear hb); (try clear hb2); (try clear hk); (try clear hi); have hcz15_0 : w14.cell? ⟨gb172, 0, none⟩ = some (.int .i16 a0_0) := (blk_cell BK172.out 0).trans rfl; have hcz15_1 : w14.cell? ⟨gb172, 1, none⟩ = some (.slice A0_1 l0_1.length c0_1) := (blk_cell BK172.out 1).trans rfl; have hfz15_0 := blk_frozen BK172.out 0; have hfz15_1 := blk_frozen BK172.out 1) | ((with_reducible refine gate_callee (f := 30) rfl ?_); refine goesL_ (some 21) rfl rfl Try.func30 (by kernel_rfl) rfl #[.agg #[.int .i16 a0_0, .slice A0_1 l0_1.length c0_1]] rfl a3_ ?_; (with_reducible refine (laws_toProgram.calls k a0_0 _ _ l0_1 t174 t175 _ ?side1 ?side2 A7.out).mono ?_); (case side1 => exact a52_); (case side2 => exact HC0_1.out); rintro e w16 ⟨v176, rfl, ho0, hb⟩; refine ⟨_, rfl, ?_⟩; have n0_ := Aside0.mk (Kd.R_lower ho0 (below_size a10_)); have n1_ := Aside0.mk (blk_below (g := gb172) a2_ hb); have n2_ := Aside0.mk (below_step a10_ hb); clear BK172; clear HB; have HO177 := n0_; have BK172 := n1_; have HB := n2_; clear n0_ n1_ n2_; (try clear hb); (try clear hb2); (try clear hk); (try clear hi); (try clear ho0); obtain ⟨Ao17, co17, eo17⟩ := Kd.R_slice HO177.out; subst eo17) | ((with_reducible refine gate_callee (f := 29) rfl ?_); refine goesL_ (some 22) rfl rfl Try.func29 (by kernel_rfl) rfl #[.agg #[.int .i16 t174, .slice Ao17 t175.length co17]] rfl a3_ ?_; (with_reducible refine (spec_ReverseProgram.calls k t174 _ _ t175 t178 t179 t182 _ ?side1 ?side2 A8.out).mono ?_); (case side1 => repeat (first | exact (Kd.R_reads' HO177.out).2.2 | (with_reducible refine Kd.C_alloc ?_ _) | (with_reducible refine Kd.C_drewN ?_ _) | (with_reducible refine Kd.C_drew ?_))); (case side2 => exact (Kd.R_reads' HO177.out).2.1); rintro e w18 ⟨v180, rfl, ho0, hb⟩; refine ⟨_, rfl, ?_⟩; have n0_ := Aside0.mk (Kd.R_elder' a39_ (Kd.R_base ho0) hb); have n1_ := Aside0.mk (Kd.R_lower (Kd.R_new' ho0 (Kd.R_lt a39_)) (below_size a10_)); have n2_ := Aside0.mk (blk_below (g := gb172) a2_ hb); have n3_ := Aside0.mk (below_step a10_ hb); clear HO177; clear BK172; clear HB; have HO177 := n0_; have HO181 := n1_; have BK172 := n2_; have HB := n3_; clear n0_ n1_ n2_ n3_; (try clear hb); (try clear hb2); (try clear hk); (try clear hi); (try clear ho0)) | ((with_reducible refine gate_dst (N := 4) rfl ?_); refine box_event ?hg (N := 4) ?hd (cs := #[.int .i16 0, .slice none 0 0]) (t := 45) ?hr ?_; (case hd => rfl); (case hg => rfl); (case hr => exact a62_); intro gb183 hg w19 hbox hb; have n0_ := Aside0.mk (Kd.R_below a39_ hb); have n1_ := Aside0.mk (Kd.R_below a44_ hb); have n2_ := Aside0.mk (blk_below (g := gb172) a2_ hb); have n3_ := Aside0.mk (below_step a10_ hb); have n4_ := Aside0.mk (hbox); have n5_ := Aside0.mk ((by rw [hg]; exact (below_size a10_) : w.heap.size ≤ gb183)); have n6_ := Aside0.mk ((by rw [hg]; exact (below_size a10_) : w.heap.size ≤ gb183)); have n7_ := Aside0.mk ((a47_ : gb172 ≠ gb183)); have n8_ := Aside0.mk ((a48_ : gb183 ≠ gb172)); clear HO177; clear HO181; clear BK172; clear HB; have HO177 := n0_; have HO181 := n1_; have BK172 := n2_; have HB := n3_; have BK183 := n4_; have GW183 := n5_; have GE183 := n6_; have NB172_183 := n7_; have NB183_172 := n8_; clear n0_ n1_ n2_ n3_ n4_ n5_ n6_ n7_ n8_; clear hb hbox hg; have hnb20 := NB183_172.out; have hnc20 := NB172_183.out; have hcz21_0 : w19.cell? ⟨gb183, 0, none⟩ = some (.int .i16 0) := (blk_cell BK183.out 0).trans rfl; have hcz21_1 : w19.cell? ⟨gb183, 1, none⟩ = some (.slice none 0 0) := (blk_cell BK183.out 1).trans rfl; have hfz21_0 := blk_frozen BK183.out 0; have hfz21_1 := blk_frozen BK183.out 1; obtain ⟨Ao22, co22, eo22⟩ := Kd.R_slice HO181.out; subst eo22; have hcz23_0 : w19.cell? ⟨gb172, 0, none⟩ = some (.int .i16 a0_0) := (blk_cell BK172.out 0).trans rfl; have hcz23_1 : w19.cell? ⟨gb172, 1, none⟩ = some (.slice A0_1 l0_1.length c0_1) := (blk_cell BK172.out 1).trans rfl; have hfz23_0 := blk_frozen BK172.out 0; have hfz23_1 := blk_frozen BK172.out 1) | ((with_reducible refine gate_callee (f := 30) rfl ?_); refine goesL_ (some 26) rfl rfl Try.func30 (by kernel_rfl) rfl #[.agg #[.int .i16 a0_0, .slice A0_1 l0_1.length c0_1]] rfl a3_ ?_; (with_reducible refine (laws_toProgram.calls k a0_0 _ _ l0_1 t184 t185 _ ?side1 ?side2 A9.out).mono ?_); (case side1 => exact Kd.C_below HR0_1.out a16_); (case side2 => exact HC0_1.out); rintro e w24 ⟨v186, rfl, ho0, hb⟩; refine ⟨_, rfl, ?_⟩; have n0_ := Aside0.mk (Kd.R_elder' a33_ (Kd.R_base ho0) hb); have n1_ := Aside0.mk (Kd.R_elder' a34_ (Kd.R_base ho0) hb); have n2_ := Aside0.mk (Kd.R_lower (Kd.R_new' (Kd.R_new' ho0 (Kd.R_lt a33_)) (Kd.R_lt a34_)) (below_size a16_)); have n3_ := Aside0.mk (blk_below (g := gb172) (o := .cells #[.int .i16 a0_0, .slice A0_1 l0_1.length c0_1] 41 (0, 0)) (by (with_reducible repeat (first | refine blk_drewN ?_ _ | refine blk_drew ?_ | refine blk_alloc ?_ _)); refine blk_far ?_ NB172_183.out _; (with_reducible repeat (first | refine blk_drewN ?_ _ | refine blk_drew ?_ | refine blk_alloc ?_ _)); refine blk_far ?_ NB172_183.out _; (with_reducible repeat (first | refine blk_drewN ?_ _ | refine blk_drew ?_ | refine blk_alloc ?_ _)); exact BK172.out) hb); have n4_ := Aside0.mk (blk_below (g := gb183) (o := .cells #[.int .i16 t178, .slice Ao22 t179.length co22] 45 (0, 0)) (by (with_reducible repeat (first | refine blk_drewN ?_ _ | refine blk_drew ?_ | refine blk_alloc ?_ _)); refine blk_put (cs := #[.int .i16 t178, .slice none 0 0]) ?_ 1 _ rfl; (with_reducible repeat (first | refine blk_drewN ?_ _ | refine blk_drew ?_ | refine blk_alloc ?_ _)); refine blk_put (cs := #[.int .i16 0, .slice none 0 0]) ?_ 0 _ rfl; (with_reducible repeat (first | refine blk_drewN ?_ _ | refine blk_drew ?_ | refine blk_alloc ?_ _)); exact BK183.out) hb); have n5_ := Aside0.mk (below_step a16_ hb); clear HO177; clear HO181; clear BK172; clear BK183; clear HB; have HO177 := n0_; have HO181 := n1_; have HO187 := n2_; have BK172 := n3_; have BK183 := n4_; have HB := n5_; clear n0_ n1_ n2_ n3_ n4_ n5_; (try clear hb); (try clear hb2); (try clear hk); (try clear hi); (try clear ho0)) | ((with_reducible refine gate_dst (N := 6) rfl ?_); refine box_event ?hg (N := 6) ?hd (cs := #[.int .i16 0, .slice none 0 0]) (t := 45) ?hr ?_; (case hd => rfl); (case hg => rfl); (case hr => exact a62_); intro gb188 hg w25 hbox hb; have n0_ := Aside0.mk (Kd.R_below a39_ hb); have n1_ := Aside0.mk (Kd.R_below a44_ hb); have n2_ := Aside0.mk (Kd.R_below a46_ hb); have n3_ := Aside0.mk (blk_below (g := gb172) a2_ hb); have n4_ := Aside0.mk (blk_below (g := gb183) a4_ hb); have n5_ := Aside0.mk (below_step a16_ hb); have n6_ := Aside0.mk (hbox); have n7_ := Aside0.mk ((by rw [hg]; exact (below_size a16_) : w.heap.size ≤ gb188)); have n8_ := Aside0.mk ((by rw [hg]; exact (below_size a16_) : w.heap.size ≤ gb188)); have n9_ := Aside0.mk ((a47_ : gb172 ≠ gb188)); have n10_ := Aside0.mk ((a48_ : gb188 ≠ gb172)); have n11_ := Aside0.mk ((a49_ : gb183 ≠ gb188)); have n12_ := Aside0.mk ((a50_ : gb188 ≠ gb183)); clear HO177; clear HO181; clear HO187; clear BK172; clear BK183; clear HB; have HO177 := n0_; have HO181 := n1_; have HO187 := n2_; have BK172 := n3_; have BK183 := n4_; have HB := n5_; have BK188 := n6_; have GW188 := n7_; have GE188 := n8_; have NB172_188 := n9_; have NB188_172 := n10_; have NB183_188 := n11_; have NB188_183 := n12_; clear n0_ n1_ n2_ n3_ n4_ n5_ n6_ n7_ n8_ n9_ n10_ n11_ n12_; clear hb hbox hg; have hnb26 := NB188_172.out; have hnc26 := NB172_188.out; have hnb27 := NB188_183.out; have hnc27 := NB183_188.out; have hcz28_0 : w25.cell? ⟨gb188, 0, none⟩ = some (.int .i16 0) := (blk_cell BK188.out 0).trans rfl; have hcz28_1 : w25.cell? ⟨gb188, 1, none⟩ = some (.slice none 0 0) := (blk_cell BK188.out 1).trans rfl; have hfz28_0 := blk_frozen BK188.out 0; have hfz28_1 := blk_frozen BK188.out 1; obtain ⟨Ao29, co29, eo29⟩ := Kd.R_slice HO187.out; subst eo29) | ((with_reducible refine gate_callee (f := 31) rfl ?_); refine goesL_ (some 29) rfl rfl Try.func31 (by kernel_rfl) rfl #[.agg #[.int .i16 t184, .slice Ao29 t185.length co29]] rfl a3_ ?_; (with_reducible refine (impl_ReverseProgram.calls k t184 _ _ t185 t189 t190 t193 _ ?side1 ?side2 A10.out).mono ?_); (case side1 => refine (Kd.R_reads' (e := 125) (base := w.heap.size) (ok := fun k_ => ((True ∧ nbk k_ Ao17 t175.length co17) ∧ nbk k_ Ao22 t179.length co22)) (n := t185.length) (c := co29) ?_).2.2; exact a18_); (case side2 => exact (Kd.R_reads' HO187.out).2.1); rintro e w30 ⟨v191, rfl, ho0, hb⟩; refine ⟨_, rfl, ?_⟩; have n0_ := Aside0.mk (Kd.R_elder' a35_ (Kd.R_base ho0) hb); have n1_ := Aside0.mk (Kd.R_elder' a36_ (Kd.R_base ho0) hb); have n2_ := Aside0.mk (Kd.R_elder' a18_ (Kd.R_base ho0) hb); have n3_ := Aside0.mk (Kd.R_lower (Kd.R_new' (Kd.R_new' (Kd.R_new' ho0 (Kd.R_lt a35_)) (Kd.R_lt a36_)) (Kd.R_lt a18_)) (below_size a17_)); have n4_ := Aside0.mk (blk_below (g := gb172) (o := .cells #[.int .i16 a0_0, .slice A0_1 l0_1.length c0_1] 41 (0, 0)) (by (with_reducible repeat (first | refine blk_drewN ?_ _ | refine blk_drew ?_ | refine blk_alloc ?_ _)); refine blk_far ?_ NB172_188.out _; (with_reducible repeat (first | refine blk_drewN ?_ _ | refine blk_drew ?_ | refine blk_alloc ?_ _)); refine blk_far ?_ NB172_188.out _; (with_reducible repeat (first | refine blk_drewN ?_ _ | refine blk_drew ?_ | refine blk_alloc ?_ _)); exact BK172.out) hb); have n5_ := Aside0.mk (blk_below (g := gb183) (o := .cells #[.int .i16 t178, .slice Ao22 t179.length co22] 45 (0, 0)) (by (with_reducible repeat (first | refine blk_drewN ?_ _ | refine blk_drew ?_ | refine blk_alloc ?_ _)); refine blk_far ?_ NB183_188.out _; (with_reducible repeat (first | refine blk_drewN ?_ _ | refine blk_drew ?_ | refine blk_alloc ?_ _)); refine blk_far ?_ NB183_188.out _; (with_reducible repeat (first | refine blk_drewN ?_ _ | refine blk_drew ?_ | refine blk_alloc ?_ _)); exact BK183.out) hb); have n6_ := Aside0.mk (blk_below (g := gb188) (o := .cells #[.int .i16 t184, .slice Ao29 t185.length co29] 45 (0, 0)) (by (with_reducible repeat (first | refine blk_drewN ?_ _ | refine blk_drew ?_ | refine blk_alloc ?_ _)); refine blk_put (cs := #[.int .i16 t184, .slice none 0 0]) ?_ 1 _ rfl; (with_reducible repeat (first | refine blk_drewN ?_ _ | refine blk_drew ?_ | refine blk_alloc ?_ _)); refine blk_put (cs := #[.int .i16 0, .slice none 0 0]) ?_ 0 _ rfl; (with_reducible repeat (first | refine blk_drewN ?_ _ | refine blk_drew ?_ | refine blk_alloc ?_ _)); exact BK188.out) hb); have n7_ := Aside0.mk (below_step a17_ hb); clear HO177; clear HO181; clear HO187; clear BK172; clear BK183; clear BK188; clear HB; have HO177 := n0_; have HO181 := n1_; have HO187 := n2_; have HO192 := n3_; have BK172 := n4_; have BK183 := n5_; have BK188 := n6_; have HB := n7_; clear n0_ n1_ n2_ n3_ n4_ n5_ n6_ n7_; (try clear hb); (try clear hb2); (try clear hk); (try clear hi); (try clear ho0)) | ((with_reducible refine gate_dst (N := 7) rfl ?_); refine box_event ?hg (N := 7) ?hd (cs := #[.int .i16 0, .slice none 0 0]) (t := 45) ?hr ?_; (case hd => rfl); (case hg => rfl); (case hr => exact a62_); intro gb194 hg w31 hbox hb; have n0_ := Aside0.mk (Kd.R_below a39_ hb); have n1_ := Aside0.mk (Kd.R_below a44_ hb); have n2_ := Aside0.mk (Kd.R_below a46_ hb); have n3_ := Aside0.mk (Kd.R_below (by (with_reducible repeat (first | apply Kd.R_alloc | apply Kd.R_drewN | apply Kd.R_drew)); exact HO192.out) hb); have n4_ := Aside0.mk (blk_below (g := gb172) a2_ hb); have n5_ := Aside0.mk (blk_below (g := gb183) a4_ hb); have n6_ := Aside0.mk (blk_below (g := gb188) a5_ hb); have n7_ := Aside0.mk (below_step a17_ hb); have n8_ := Aside0.mk (hbox); have n9_ := Aside0.mk ((by rw [hg]; exact (below_size a17_) : w.heap.size ≤ gb194)); have n10_ := Aside0.mk ((by rw [hg]; exact (below_size a17_) : w.heap.size ≤ gb194)); have n11_ := Aside0.mk ((a47_ : gb172 ≠ gb194)); have n12_ := Aside0.mk ((a48_ : gb194 ≠ gb172)); have n13_ := Aside0.mk ((a49_ : gb183 ≠ gb194)); have n14_ := Aside0.mk ((a50_ : gb194 ≠ gb183)); have n15_ := Aside0.mk ((by rw [hg]; exact Nat.ne_of_lt (blk_lt (g := gb188) (o := .cells #[.int .i16 t184, .slice Ao29 t185.length co29] 45 (0, 0)) a5_) : gb188 ≠ gb194)); have n16_ := Aside0.mk ((by rw [hg]; exact Nat.ne_of_gt (blk_lt (g := gb188) (o := .cells #[.int .i16 t184, .slice Ao29 t185.length co29] 45 (0, 0)) a5_) : gb194 ≠ gb188)); clear HO177; clear HO181; clear HO187; clear HO192; clear BK172; clear BK183; clear BK188; clear HB; have HO177 := n0_; have HO181 := n1_; have HO187 := n2_; have HO192 := n3_; have BK172 := n4_; have BK183 := n5_; have BK188 := n6_; have HB := n7_; have BK194 := n8_; have GW194 := n9_; have GE194 := n10_; have NB172_194 := n11_; have NB194_172 := n12_; have NB183_194 := n13_; have NB194_183 := n14_; have NB188_194 := n15_; have NB194_188 := n16_; clear n0_ n1_ n2_ n3_ n4_ n5_ n6_ n7_ n8_ n9_ n10_ n11_ n12_ n13_ n14_ n15_ n16_; clear hb hbox hg; have hnb32 := NB194_172.out; have hnc32 := NB172_194.out; have hnb33 := NB194_183.out; have hnc33 := NB183_194.out; have hnb34 := NB194_188.out; have hnc34 := NB188_194.out; have hcz35_0 : w31.cell? ⟨gb194, 0, none⟩ = some (.int .i16 0) := (blk_cell BK194.out 0).trans rfl; have hcz35_1 : w31.cell? ⟨gb194, 1, none⟩ = some (.slice none 0 0) := (blk_cell BK194.out 1).trans rfl; have hfz35_0 := blk_frozen BK194.out 0; have hfz35_1 := blk_frozen BK194.out 1; obtain ⟨Ao36, co36, eo36⟩ := Kd.R_slice HO192.out; subst eo36))
  (try simp only [Act.put, List.setIfInBounds_toArray, List.set_cons_zero, List.set_cons_succ])
  go_cut [40] (fun v40 wc => ∃ (kq : Nat) (x40_10 : Bool), v40 = .bool x40_10 ∧ Aside0 (laws_FnExactReverseProgram.j0 kq t182 t193 x40_10 a0_0 l0_1 t178 t179 t184 t185 t189 t190 = some r) ∧ Aside0 (kq ≤ k) ∧ Aside0 (Kd.R k125 125 wc w.heap.size (fun k_ => some k_ ≠ ((.slice Ao29 t185.length co29) : Value).ownBlock ∧ some k_ ≠ ((.slice Ao36 t190.length co36) : Value).ownBlock) (.slice Ao22 t179.length co22) t179) ∧ Aside0 (Kd.R k125 125 wc w.heap.size (fun k_ => some k_ ≠ ((.slice Ao22 t179.length co22) : Value).ownBlock ∧ some k_ ≠ ((.slice Ao36 t190.length co36) : Value).ownBlock) (.slice Ao29 t185.length co29) t185) ∧ Aside0 (Kd.R k125 125 wc w.heap.size (fun k_ => some k_ ≠ ((.slice Ao22 t179.length co22) : Value).ownBlock ∧ some k_ ≠ ((.slice Ao29 t185.length co29) : Value).ownBlock) (.slice Ao36 t190.length co36) t190) ∧ Aside0 (wc.heap[gb172]? = some (.cells #[.int .i16 a0_0, (.slice A0_1 l0_1.length c0_1)] 41 (0, 0))) ∧ Aside0 (wc.heap[gb183]? = some (.cells #[.int .i16 t178, (.slice Ao22 t179.length co22)] 45 (0, 0))) ∧ Aside0 (wc.heap[gb188]? = some (.cells #[.int .i16 t184, (.slice Ao29 t185.length co29)] 45 (0, 0))) ∧ Aside0 (wc.heap[gb194]? = some (.cells #[.int .i16 t189, (.slice Ao36 t190.length co36)] 45 (0, 0))) ∧ Aside0 (Below w.heap.size w wc))
  case first =>
   have H := HC11.out
   clear HC11
   replace H := Option.bind_eq_some_iff.mp H
   obtain ⟨t195, A370, H⟩ := H
   replace H : (if t195 = true then (laws_FnExactReverseProgram.j0 k t182 t193 (t193 != t182) a0_0 l0_1 t178 t179 t184 t185 t189 t190) else (laws_FnExactReverseProgram.j0 k t182 t193 true a0_0 l0_1 t178 t179 t184 t185 t189 t190)) = some r := H
   have A37 := Aside0.mk A370
   clear A370
   by_cases c38 : t195 = true
   ·subst c38
    have H1 : (laws_FnExactReverseProgram.j0 k t182 t193 (t193 != t182) a0_0 l0_1 t178 t179 t184 t185 t189 t190) = some r := by rw [if_pos rfl] at H; exact H
    clear H
    have H := H1
    clear H1
    have H' := Aside0.mk H
    clear H
    have hnb39 := NB194_172.out
    have hnc39 := NB172_194.out
    have hnb40 := NB194_183.out
    have hnc40 := NB183_194.out
    have hnb41 := NB194_188.out
    have hnc41 := NB188_194.out
    have hcz42_0 : w31.cell? ⟨gb194, 0, none⟩ = some (.int .i16 0) := (blk_cell BK194.out 0).trans rfl
    have hcz42_1 : w31.cell? ⟨gb194, 1, none⟩ = some (.slice none 0 0) := (blk_cell BK194.out 1).trans rfl
    have hfz42_0 := blk_frozen BK194.out 0
    have hfz42_1 := blk_frozen BK194.out 1
    have hnb43 := NB183_172.out
    have hnc43 := NB172_183.out
    have hnb44 := NB183_188.out
    have hnc44 := NB188_183.out
    have hcz45_0 : w31.cell? ⟨gb183, 0, none⟩ = some (.int .i16 t178) := (blk_cell BK183.out 0).trans rfl
    have hcz45_1 : w31.cell? ⟨gb183, 1, none⟩ = some (.slice Ao22 t179.length co22) := (blk_cell BK183.out 1).trans rfl
    have hfz45_0 := blk_frozen BK183.out 0
    have hfz45_1 := blk_frozen BK183.out 1
    go_wp2_with (first | ((with_reducible refine gate_callee (f := 32) rfl ?_); refine goesL_ (some 34) rfl rfl Try.func32 (by kernel_rfl) rfl #[.agg #[.int .i16 t189, .slice Ao36 t190.length co36], .agg #[.int .i16 t178, .slice Ao22 t179.length co22]] rfl a3_ ?_; (with_reducible refine (laws_eqProgram.calls k t189 _ _ t190 t178 _ _ t179 true _ ?side1 ?side2 ?side3 ?side4 A37.out).mono ?_); (case side1 => exact a56_); (case side2 => exact (Kd.R_reads' HO192.out).2.1); (case side3 => exact a57_); (case side4 => exact (Kd.R_reads' HO181.out).2.1); rintro e w46 ⟨rfl, hb⟩; refine ⟨_, rfl, ?_⟩; have n0_ := Aside0.mk (Kd.R_below a37_ hb); have n1_ := Aside0.mk (Kd.R_below a15_ hb); have n2_ := Aside0.mk (Kd.R_below a38_ hb); have n3_ := Aside0.mk (Kd.R_below a14_ hb); have n4_ := Aside0.mk (blk_below (g := gb172) (o := .cells #[.int .i16 a0_0, .slice A0_1 l0_1.length c0_1] 41 (0, 0)) a22_ hb); have n5_ := Aside0.mk (blk_below (g := gb183) (o := .cells #[.int .i16 t178, .slice Ao22 t179.length co22] 45 (0, 0)) a23_ hb); have n6_ := Aside0.mk (blk_below (g := gb188) (o := .cells #[.int .i16 t184, .slice Ao29 t185.length co29] 45 (0, 0)) a24_ hb); have n7_ := Aside0.mk (blk_below (g := gb194) (o := .cells #[.int .i16 t189, .slice Ao36 t190.length co36] 45 (0, 0)) a19_ hb); have n8_ := Aside0.mk (below_step a1_ hb); clear HO177; clear HO181; clear HO187; clear HO192; clear BK172; clear BK183; clear BK188; clear BK194; clear HB; have HO177 := n0_; have HO181 := n1_; have HO187 := n2_; have HO192 := n3_; have BK172 := n4_; have BK183 := n5_; have BK188 := n6_; have BK194 := n7_; have HB := n8_; clear n0_ n1_ n2_ n3_ n4_ n5_ n6_ n7_ n8_; (try clear hb); (try clear hb2); (try clear hk); (try clear hi)))
    go_meet
    case rel => exact ⟨_, ((t193 != t182)), a43_, H', ⟨by first | omega | exact Nat.le_refl _⟩, ⟨by (with_reducible repeat (first | apply Kd.R_alloc | apply Kd.R_drewN | apply Kd.R_drew)); exact Kd.R_mono HO181.out (fun _ hk => ⟨hk.1.2, hk.2⟩)⟩, ⟨by (with_reducible repeat (first | apply Kd.R_alloc | apply Kd.R_drewN | apply Kd.R_drew)); exact Kd.R_mono HO187.out (fun _ hk => ⟨hk.1.2, hk.2⟩)⟩, ⟨by (with_reducible repeat (first | apply Kd.R_alloc | apply Kd.R_drewN | apply Kd.R_drew)); exact Kd.R_mono HO192.out (fun _ hk => ⟨hk.1.2, hk.2⟩)⟩, ⟨by (with_reducible repeat (first | refine blk_drewN ?_ _ | refine blk_drew ?_ | refine blk_alloc ?_ _)); exact BK172.out⟩, ⟨by (with_reducible repeat (first | refine blk_drewN ?_ _ | refine blk_drew ?_ | refine blk_alloc ?_ _)); exact BK183.out⟩, ⟨by (with_reducible repeat (first | refine blk_drewN ?_ _ | refine blk_drew ?_ | refine blk_alloc ?_ _)); exact BK188.out⟩, ⟨by (with_reducible repeat (first | refine blk_drewN ?_ _ | refine blk_drew ?_ | refine blk_alloc ?_ _)); exact BK194.out⟩, ⟨by repeat (first | (with_reducible first | exact HB.out | apply below_alloc | apply pw_below_drewN | apply below_drew1 | refine below_set ?_ GE172.out | refine below_set ?_ GE183.out | refine below_set ?_ GE188.out | refine below_set ?_ GE194.out) | exact HB.out)⟩⟩
   ·replace c38 := Bool.eq_false_iff.mpr c38
    subst c38
    have H1 : (laws_FnExactReverseProgram.j0 k t182 t193 true a0_0 l0_1 t178 t179 t184 t185 t189 t190) = some r := by rw [if_neg (show ¬ (false = true) by decide)] at H; exact H
    clear H
    have H := H1
    clear H1
    have H' := Aside0.mk H
    clear H
    have hnb47 := NB194_172.out
    have hnc47 := NB172_194.out
    have hnb48 := NB194_183.out
    have hnc48 := NB183_194.out
    have hnb49 := NB194_188.out
    have hnc49 := NB188_194.out
    have hcz50_0 : w31.cell? ⟨gb194, 0, none⟩ = some (.int .i16 0) := (blk_cell BK194.out 0).trans rfl
    have hcz50_1 : w31.cell? ⟨gb194, 1, none⟩ = some (.slice none 0 0) := (blk_cell BK194.out 1).trans rfl
    have hfz50_0 := blk_frozen BK194.out 0
    have hfz50_1 := blk_frozen BK194.out 1
    have hnb51 := NB183_172.out
    have hnc51 := NB172_183.out
    have hnb52 := NB183_188.out
    have hnc52 := NB188_183.out
    have hcz53_0 : w31.cell? ⟨gb183, 0, none⟩ = some (.int .i16 t178) := (blk_cell BK183.out 0).trans rfl
    have hcz53_1 : w31.cell? ⟨gb183, 1, none⟩ = some (.slice Ao22 t179.length co22) := (blk_cell BK183.out 1).trans rfl
    have hfz53_0 := blk_frozen BK183.out 0
    have hfz53_1 := blk_frozen BK183.out 1
    go_wp2_with (first | ((with_reducible refine gate_callee (f := 32) rfl ?_); refine goesL_ (some 34) rfl rfl Try.func32 (by kernel_rfl) rfl #[.agg #[.int .i16 t189, .slice Ao36 t190.length co36], .agg #[.int .i16 t178, .slice Ao22 t179.length co22]] rfl a3_ ?_; (with_reducible refine (laws_eqProgram.calls k t189 _ _ t190 t178 _ _ t179 false _ ?side1 ?side2 ?side3 ?side4 A37.out).mono ?_); (case side1 => exact a56_); (case side2 => exact (Kd.R_reads' HO192.out).2.1); (case side3 => exact a57_); (case side4 => exact (Kd.R_reads' HO181.out).2.1); rintro e w54 ⟨rfl, hb⟩; refine ⟨_, rfl, ?_⟩; have n0_ := Aside0.mk (Kd.R_below a37_ hb); have n1_ := Aside0.mk (Kd.R_below a15_ hb); have n2_ := Aside0.mk (Kd.R_below a38_ hb); have n3_ := Aside0.mk (Kd.R_below a14_ hb); have n4_ := Aside0.mk (blk_below (g := gb172) (o := .cells #[.int .i16 a0_0, .slice A0_1 l0_1.length c0_1] 41 (0, 0)) a22_ hb); have n5_ := Aside0.mk (blk_below (g := gb183) (o := .cells #[.int .i16 t178, .slice Ao22 t179.length co22] 45 (0, 0)) a23_ hb); have n6_ := Aside0.mk (blk_below (g := gb188) (o := .cells #[.int .i16 t184, .slice Ao29 t185.length co29] 45 (0, 0)) a24_ hb); have n7_ := Aside0.mk (blk_below (g := gb194) (o := .cells #[.int .i16 t189, .slice Ao36 t190.length co36] 45 (0, 0)) a19_ hb); have n8_ := Aside0.mk (below_step a1_ hb); clear HO177; clear HO181; clear HO187; clear HO192; clear BK172; clear BK183; clear BK188; clear BK194; clear HB; have HO177 := n0_; have HO181 := n1_; have HO187 := n2_; have HO192 := n3_; have BK172 := n4_; have BK183 := n5_; have BK188 := n6_; have BK194 := n7_; have HB := n8_; clear n0_ n1_ n2_ n3_ n4_ n5_ n6_ n7_ n8_; (try clear hb); (try clear hb2); (try clear hk); (try clear hi)))
    go_meet
    case rel => exact ⟨_, (true), a43_, H', ⟨by first | omega | exact Nat.le_refl _⟩, ⟨by (with_reducible repeat (first | apply Kd.R_alloc | apply Kd.R_drewN | apply Kd.R_drew)); exact Kd.R_mono HO181.out (fun _ hk => ⟨hk.1.2, hk.2⟩)⟩, ⟨by (with_reducible repeat (first | apply Kd.R_alloc | apply Kd.R_drewN | apply Kd.R_drew)); exact Kd.R_mono HO187.out (fun _ hk => ⟨hk.1.2, hk.2⟩)⟩, ⟨by (with_reducible repeat (first | apply Kd.R_alloc | apply Kd.R_drewN | apply Kd.R_drew)); exact Kd.R_mono HO192.out (fun _ hk => ⟨hk.1.2, hk.2⟩)⟩, ⟨by (with_reducible repeat (first | refine blk_drewN ?_ _ | refine blk_drew ?_ | refine blk_alloc ?_ _)); exact BK172.out⟩, ⟨by (with_reducible repeat (first | refine blk_drewN ?_ _ | refine blk_drew ?_ | refine blk_alloc ?_ _)); exact BK183.out⟩, ⟨by (with_reducible repeat (first | refine blk_drewN ?_ _ | refine blk_drew ?_ | refine blk_alloc ?_ _)); exact BK188.out⟩, ⟨by (with_reducible repeat (first | refine blk_drewN ?_ _ | refine blk_drew ?_ | refine blk_alloc ?_ _)); exact BK194.out⟩, ⟨by repeat (first | (with_reducible first | exact HB.out | apply below_alloc | apply pw_below_drewN | apply below_drew1 | refine below_set ?_ GE172.out | refine below_set ?_ GE183.out | refine below_set ?_ GE188.out | refine below_set ?_ GE194.out) | exact HB.out)⟩⟩
  case rest =>
   clear HC11
   try clear c2
   try clear p2
   try clear c3
   try clear c3b0
   try clear c4
   try clear c5
   try clear c7
   try clear c20
   try clear c26
   try clear c27
   try clear c28
   try clear c29
   try clear c30
   try clear c31
   try clear c32
   try clear c33
   try clear c34
   try clear c38
   try clear c39
   try clear c40
   try clear c41
   try clear c43
   try clear c44
   try clear c47
   try clear c48
   try clear c49
   try clear c51
   try clear c52
   try clear hcz13_0
   try clear hcz13_1
   try clear hcz15_0
   try clear hcz15_1
   try clear hcz21_0
   try clear hcz21_1
   try clear hcz23_0
   try clear hcz23_1
   try clear hcz28_0
   try clear hcz28_1
   try clear hcz35_0
   try clear hcz35_1
   try clear hcz42_0
   try clear hcz42_1
   try clear hcz45_0
   try clear hcz45_1
   try clear hcz50_0
   try clear hcz50_1
   try clear hcz53_0
   try clear hcz53_1
   try clear hcz5_0
   try clear hcz5_1
   try clear hfz13_0
   try clear hfz13_1
   try clear hfz15_0
   try clear hfz15_1
   try clear hfz21_0
   try clear hfz21_1
   try clear hfz23_0
   try clear hfz23_1
   try clear hfz28_0
   try clear hfz28_1
   try clear hfz35_0
   try clear hfz35_1
   try clear hfz42_0
   try clear hfz42_1
   try clear hfz45_0
   try clear hfz45_1
   try clear hfz50_0
   try clear hfz50_1
   try clear hfz53_0
   try clear hfz53_1
   try clear hfz5_0
   try clear hfz5_1
   obtain ⟨kq, x40_10, rfl, HA, HJ10, HO_184001, HO_189001, HO_195001, BK172, BK183, BK188, BK194, HB⟩ := hcut
   cases kq with
   | zero => exact absurd HA.out (by simp [laws_FnExactReverseProgram.j0])
   | succ kj10 =>
    have H := HA.out
    clear HA
    simp only [laws_FnExactReverseProgram.j0] at H
    by_cases c55 : x40_10 = true
    ·subst c55
     have H1 : (some false) = some r := by rw [if_pos rfl] at H; exact H
     clear H
     have H := H1
     clear H1
     obtain rfl := Option.some.inj H
     go_wp2
     go_ret
     exact ⟨by first | rfl | (simp [errW_none, errW_some] <;> rfl) | (simp [*, errW_none, errW_some] <;> rfl), by repeat (first | (with_reducible first | exact HB.out | apply below_alloc | apply pw_below_drewN | apply below_drew1 | refine below_set ?_ GE172.out | refine below_set ?_ GE183.out | refine below_set ?_ GE188.out | refine below_set ?_ GE194.out) | exact HB.out)⟩
    ·replace c55 := Bool.eq_false_iff.mpr c55
     subst c55
     have H1 : ((laws_toProgram.f kj10 a0_0 l0_1).bind fun bt196 => ((laws_eqProgram.f kj10 t184 t185 bt196.1 bt196.2).bind fun t200 => (if t200 = true then ((laws_markProgram.f kj10 t184 t185 1).bind fun bt201 => (if bt201.1 < 0 then (laws_FnExactReverseProgram.j1 kj10 t182 true a0_0 l0_1 t178 t179 t189 t190) else ((laws_eqProgram.f kj10 t189 t190 t178 t179).bind fun t203 => (if t203 = true then (laws_FnExactReverseProgram.j1 kj10 t182 (t193 != t182) a0_0 l0_1 t178 t179 t189 t190) else (laws_FnExactReverseProgram.j1 kj10 t182 true a0_0 l0_1 t178 t179 t189 t190))))) else (some false)))) = some r := by rw [if_neg (show ¬ (false = true) by decide)] at H; exact H
     clear H
     have H := H1
     clear H1
     replace H := Option.bind_eq_some_iff.mp H
     obtain ⟨⟨t196, t197⟩, A560, H⟩ := H
     replace H : ((laws_eqProgram.f kj10 t184 t185 t196 t197).bind fun t200 => (if t200 = true then ((laws_markProgram.f kj10 t184 t185 1).bind fun bt201 => (if bt201.1 < 0 then (laws_FnExactReverseProgram.j1 kj10 t182 true a0_0 l0_1 t178 t179 t189 t190) else ((laws_eqProgram.f kj10 t189 t190 t178 t179).bind fun t203 => (if t203 = true then (laws_FnExactReverseProgram.j1 kj10 t182 (t193 != t182) a0_0 l0_1 t178 t179 t189 t190) else (laws_FnExactReverseProgram.j1 kj10 t182 true a0_0 l0_1 t178 t179 t189 t190))))) else (some false))) = some r := H
     have A56 := Aside0.mk A560
     clear A560
     replace H := Option.bind_eq_some_iff.mp H
     obtain ⟨t200, A570, H⟩ := H
     replace H : (if t200 = true then ((laws_markProgram.f kj10 t184 t185 1).bind fun bt201 => (if bt201.1 < 0 then (laws_FnExactReverseProgram.j1 kj10 t182 true a0_0 l0_1 t178 t179 t189 t190) else ((laws_eqProgram.f kj10 t189 t190 t178 t179).bind fun t203 => (if t203 = true then (laws_FnExactReverseProgram.j1 kj10 t182 (t193 != t182) a0_0 l0_1 t178 t179 t189 t190) else (laws_FnExactReverseProgram.j1 kj10 t182 true a0_0 l0_1 t178 t179 t189 t190))))) else (some false)) = some r := H
     have A57 := Aside0.mk A570
     clear A570
     by_cases c58 : t200 = true
     ·subst c58
      have H1 : ((laws_markProgram.f kj10 t184 t185 1).bind fun bt201 => (if bt201.1 < 0 then (laws_FnExactReverseProgram.j1 kj10 t182 true a0_0 l0_1 t178 t179 t189 t190) else ((laws_eqProgram.f kj10 t189 t190 t178 t179).bind fun t203 => (if t203 = true then (laws_FnExactReverseProgram.j1 kj10 t182 (t193 != t182) a0_0 l0_1 t178 t179 t189 t190) else (laws_FnExactReverseProgram.j1 kj10 t182 true a0_0 l0_1 t178 t179 t189 t190))))) = some r := by rw [if_pos rfl] at H; exact H
      clear H
      have H := H1
      clear H1
      replace H := Option.bind_eq_some_iff.mp H
      obtain ⟨⟨t201, t202⟩, A590, H⟩ := H
      replace H : (if t201 < 0 then (laws_FnExactReverseProgram.j1 kj10 t182 true a0_0 l0_1 t178 t179 t189 t190) else ((laws_eqProgram.f kj10 t189 t190 t178 t179).bind fun t203 => (if t203 = true then (laws_FnExactReverseProgram.j1 kj10 t182 (t193 != t182) a0_0 l0_1 t178 t179 t189 t190) else (laws_FnExactReverseProgram.j1 kj10 t182 true a0_0 l0_1 t178 t179 t189 t190)))) = some r := H
      have A59 := Aside0.mk A590
      clear A590
      have HC60 := Aside0.mk H
      clear H
      try go_wp2
      have n0_ := Aside0.mk (Kd.R_drew HO_184001.out)
      have n1_ := Aside0.mk (Kd.R_drew HO_189001.out)
      have n2_ := Aside0.mk (Kd.R_drew HO_195001.out)
      have n3_ := Aside0.mk (blk_drew BK172.out)
      have n4_ := Aside0.mk (blk_drew BK183.out)
      have n5_ := Aside0.mk (blk_drew BK188.out)
      have n6_ := Aside0.mk (blk_drew BK194.out)
      have n7_ := Aside0.mk (below_drew1 HB.out)
      clear HO_184001 HO_189001 HO_195001 BK172 BK183 BK188 BK194 HB; have HO_184001 := n0_; have HO_189001 := n1_; have HO_195001 := n2_; have BK172 := n3_; have BK183 := n4_; have BK188 := n5_; have BK194 := n6_; have HB := n7_; clear n0_ n1_ n2_ n3_ n4_ n5_ n6_ n7_
      refine start_ (n := 5) (S := fun w' => w'.cell? ⟨gb188, 0, none⟩ = some (.int .i16 t184) ∧ w'.cell? ⟨gb188, 1, none⟩ = some (.slice Ao29 t185.length co29) ∧ w'.cell? ⟨gb172, 0, none⟩ = some (.int .i16 a0_0) ∧ w'.cell? ⟨gb172, 1, none⟩ = some (.slice A0_1 l0_1.length c0_1)) (ds := []) #[false, false, false, false, false] (by kernel_rfl) rfl rfl ⟨(blk_cell BK188.out 0).trans rfl, (blk_cell BK188.out 1).trans rfl, (blk_cell BK172.out 0).trans rfl, (blk_cell BK172.out 1).trans rfl⟩ (fun hHeld => ?_)
      generalize wc.drew = w61 at HO_184001 HO_189001 HO_195001 BK172 BK183 BK188 BK194 HB hHeld ⊢
      refine take_ (i := 0) (N := some 41) (v := ?_) (a' := ?_) #[true, false, false, false, false] rfl rfl (by kernel_rfl) (fun _ _ _ h => h) (Or.inl ⟨by rfl, ?_⟩) hHeld ?_ ?_
      rotate_left
      ·rintro w' ⟨s0, s1, s2, s3⟩
       go_simp; with_reducible rfl
      rotate_left
      ·simp only [Act.put, List.setIfInBounds_toArray, List.set_cons_zero, List.set_cons_succ, i64_w, i32_w]
       rfl
      refine take_ (i := 1) (N := some 42) (v := ?_) (a' := ?_) #[true, true, false, false, false] rfl rfl (by kernel_rfl) (fun _ _ _ h => h) (Or.inl ⟨by rfl, ?_⟩) hHeld ?_ ?_
      rotate_left
      ·rintro w' ⟨s0, s1, s2, s3⟩
       go_simp; with_reducible rfl
      rotate_left
      ·simp only [Act.put, List.setIfInBounds_toArray, List.set_cons_zero, List.set_cons_succ, i64_w, i32_w]
       rfl
      refine one_ (i := 2) (N := some 43) #[true, true, true, false, false] rfl rfl (by kernel_rfl) (by decide) (fun K hK => ?_)
      refine goes_ Try.func30 (by kernel_rfl) rfl #[.agg #[.int .i16 a0_0, .slice A0_1 l0_1.length c0_1]] (by rfl) rfl rfl a3_ ?_
      with_reducible refine (laws_toProgram.calls kj10 a0_0 _ _ l0_1 t196 t197 _ ?side1 ?side2 A56.out).mono ?_
      (case side1 => exact a52_); (case side2 => exact HC0_1.out)
      rintro e w62 ⟨v198, rfl, ho0, hb⟩
      refine ⟨_, rfl, ?_⟩
      have n0_ := Aside0.mk (Kd.R_elder' a7_ (Kd.R_base ho0) hb)
      have n1_ := Aside0.mk (Kd.R_elder' a8_ (Kd.R_base ho0) hb)
      have n2_ := Aside0.mk (Kd.R_elder' a9_ (Kd.R_base ho0) hb)
      have n3_ := Aside0.mk (Kd.R_lower (Kd.R_new' (Kd.R_new' (Kd.R_new' ho0 (Kd.R_lt a7_)) (Kd.R_lt a8_)) (Kd.R_lt a9_)) (below_size a1_))
      have n4_ := Aside0.mk (blk_below (g := gb172) a2_ hb)
      have n5_ := Aside0.mk (blk_below (g := gb183) a4_ hb)
      have n6_ := Aside0.mk (blk_below (g := gb188) a5_ hb)
      have n7_ := Aside0.mk (blk_below (g := gb194) a6_ hb)
      have n8_ := Aside0.mk (below_step a1_ hb)
      clear HO_184001 HO_189001 HO_195001 BK172 BK183 BK188 BK194 HB; have HO_184001 := n0_; have HO_189001 := n1_; have HO_195001 := n2_; have HO199 := n3_; have BK172 := n4_; have BK183 := n5_; have BK188 := n6_; have BK194 := n7_; have HB := n8_; clear n0_ n1_ n2_ n3_ n4_ n5_ n6_ n7_ n8_; (try clear hb); (try clear hb2); (try clear hk); (try clear hi); (try clear ho0)
      obtain ⟨Ao63, co63, eo63⟩ := Kd.R_slice HO199.out
      (first | subst eo63 | (injection eo63 with f1_ f2_ f3_; have f4_ := f1_.symm; have f5_ := f3_.symm; clear f1_ f2_ f3_; subst f4_; subst f5_))
      refine hK.out _ _ ⟨(blk_cell BK188.out 0).trans rfl, (blk_cell BK188.out 1).trans rfl, (blk_cell BK172.out 0).trans rfl, (blk_cell BK172.out 1).trans rfl⟩ (fun hHeld => ?_)
      clear hK K; refine norm_ (a' := ?_) ?_ ?_; rotate_left
      ·show Act.put _ (some 43) _ = _
       simp only [Act.put, List.setIfInBounds_toArray, List.set_cons_zero, List.set_cons_succ, i64_w, i32_w]
       rfl
      refine one_ (i := 3) (N := some 44) #[true, true, true, true, false] rfl rfl (by kernel_rfl) (by decide) (fun K hK => ?_)
      refine goes_ Try.func32 (by kernel_rfl) rfl #[.agg #[.int .i16 t184, .slice Ao29 t185.length co29], .agg #[.int .i16 t196, .slice Ao63 t197.length co63]] (by rfl) rfl rfl a3_ ?_
      with_reducible refine (laws_eqProgram.calls kj10 t184 _ _ t185 t196 _ _ t197 true _ ?side1 ?side2 ?side3 ?side4 A57.out).mono ?_
      (case side1 => exact a58_)
      (case side2 => exact (Kd.R_reads' HO_189001.out).2.1)
      (case side3 => exact a60_)
      (case side4 => exact (Kd.R_reads' HO199.out).2.1)
      rintro e w64 ⟨rfl, hb⟩
      refine ⟨_, rfl, ?_⟩
      have n0_ := Aside0.mk (Kd.R_below a7_ hb)
      have n1_ := Aside0.mk (Kd.R_below a8_ hb)
      have n2_ := Aside0.mk (Kd.R_below a9_ hb)
      have n3_ := Aside0.mk (Kd.R_below a40_ hb)
      have n4_ := Aside0.mk (blk_below (g := gb172) a2_ hb)
      have n5_ := Aside0.mk (blk_below (g := gb183) a4_ hb)
      have n6_ := Aside0.mk (blk_below (g := gb188) a5_ hb)
      have n7_ := Aside0.mk (blk_below (g := gb194) a6_ hb)
      have n8_ := Aside0.mk (below_step a1_ hb)
      clear HO_184001 HO_189001 HO_195001 HO199 BK172 BK183 BK188 BK194 HB; have HO_184001 := n0_; have HO_189001 := n1_; have HO_195001 := n2_; have HO199 := n3_; have BK172 := n4_; have BK183 := n5_; have BK188 := n6_; have BK194 := n7_; have HB := n8_; clear n0_ n1_ n2_ n3_ n4_ n5_ n6_ n7_ n8_; (try clear hb); (try clear hb2); (try clear hk); (try clear hi)
      refine hK.out _ _ ⟨(blk_cell BK188.out 0).trans rfl, (blk_cell BK188.out 1).trans rfl, (blk_cell BK172.out 0).trans rfl, (blk_cell BK172.out 1).trans rfl⟩ (fun hHeld => ?_)
      clear hK K; refine norm_ (a' := ?_) ?_ ?_; rotate_left
      ·show Act.put _ (some 44) _ = _
       simp only [Act.put, List.setIfInBounds_toArray, List.set_cons_zero, List.set_cons_succ, i64_w, i32_w]
       rfl
      refine pure_ (i := 4) (N := some 45) (v := ?_) (a' := ?_) #[true, true, true, true, true] rfl rfl (by kernel_rfl) (fun _ _ _ h => h) (Or.inl ⟨by rfl, ?_⟩) ?_ ?_
      rotate_left
      ·intro w'
       go_simp; with_reducible rfl
      rotate_left
      ·simp only [Act.put, List.setIfInBounds_toArray, List.set_cons_zero, List.set_cons_succ, i64_w, i32_w]
       rfl
      refine done_ (by kernel_rfl) ?_
      have hnb65 := NB188_172.out
      have hnc65 := NB172_188.out
      have hnb66 := NB188_183.out
      have hnc66 := NB183_188.out
      have hnb67 := NB188_194.out
      have hnc67 := NB194_188.out
      have hcz68_0 : w64.cell? ⟨gb188, 0, none⟩ = some (.int .i16 t184) := (blk_cell BK188.out 0).trans rfl
      have hcz68_1 : w64.cell? ⟨gb188, 1, none⟩ = some (.slice Ao29 t185.length co29) := (blk_cell BK188.out 1).trans rfl
      have hfz68_0 := blk_frozen BK188.out 0
      have hfz68_1 := blk_frozen BK188.out 1
      go_upto_region 14 with (first | ((with_reducible refine gate_callee (f := 33) rfl ?_); refine goesL_ (some 48) rfl rfl Try.func33 (by kernel_rfl) rfl #[.agg #[.int .i16 t184, .slice Ao29 t185.length co29], .int .i64 1] rfl a3_ ?_; (with_reducible refine (laws_markProgram.calls kj10 t184 (fun k_ => some k_ = (.slice Ao29 t185.length co29 : Value).ownBlock) (.slice Ao29 t185.length co29) t185 1 t201 t202 w _ ?side1 ?side2 A59.out).mono ?_); (case side1 => exact a53_); (case side2 => exact Kd.R_tight rfl HO_189001.out); rintro e w69 ⟨rfl, hy0, hb, hkp⟩; refine ⟨_, rfl, ?_⟩; have n0_ := Aside0.mk (Kd.R_mono (ok' := fun k_ => nbk k_ Ao29 t185.length co29 ∧ nbk k_ Ao36 t190.length co36 ∧ nbk k_ Ao63 t197.length co63) (Kd.R_keptB (HO_184001.out) hkp (fun k_ hk_ hs_ => (hk_.1.1) hs_)) (fun k_ hk_ => ⟨hk_.1.1.1, hk_.1.1.2, hk_.1.2⟩)); have n1_ := Aside0.mk (Kd.R_reok rfl hy0 (fun k_ e_ => HO_189001.out.1 k_ e_)); have n2_ := Aside0.mk (Kd.R_mono (ok' := fun k_ => nbk k_ Ao22 t179.length co22 ∧ nbk k_ Ao29 t185.length co29 ∧ nbk k_ Ao63 t197.length co63) (Kd.R_keptB (HO_195001.out) hkp (fun k_ hk_ hs_ => (hk_.1.2) hs_)) (fun k_ hk_ => ⟨hk_.1.1.1, hk_.1.1.2, hk_.1.2⟩)); have n3_ := Aside0.mk (blk_kept a2_ hkp (fun hs_ => (fun e_ => (Kd.R_ne HO_189001.out BK172.out (by decide)) e_) hs_)); have n4_ := Aside0.mk (blk_kept a4_ hkp (fun hs_ => (fun e_ => (Kd.R_ne HO_189001.out BK183.out (by decide)) e_) hs_)); have n5_ := Aside0.mk (blk_kept a5_ hkp (fun hs_ => (fun e_ => (Kd.R_ne HO_189001.out BK188.out (by decide)) e_) hs_)); have n6_ := Aside0.mk (blk_kept a6_ hkp (fun hs_ => (fun e_ => (Kd.R_ne HO_189001.out BK194.out (by decide)) e_) hs_)); have n7_ := Aside0.mk (Kd.R_mono (ok' := fun k_ => nbk k_ Ao22 t179.length co22 ∧ nbk k_ Ao29 t185.length co29 ∧ nbk k_ Ao36 t190.length co36) (Kd.R_keptB (HO199.out) hkp (fun k_ hk_ hs_ => (hk_.1.2) hs_)) (fun k_ hk_ => ⟨hk_.1.1.1.2, hk_.1.1.2, hk_.1.2⟩)); have n8_ := Aside0.mk (hb); clear HO_184001; clear HO_189001; clear HO_195001; clear BK172; clear BK183; clear BK188; clear BK194; clear HO199; clear HB; have HO_184001 := n0_; have HO_189001 := n1_; have HO_195001 := n2_; have BK172 := n3_; have BK183 := n4_; have BK188 := n5_; have BK194 := n6_; have HO199 := n7_; have HB := n8_; clear n0_ n1_ n2_ n3_ n4_ n5_ n6_ n7_ n8_; (try clear hb); (try clear hkp); (try clear hy0)))
      (try simp only [Act.put, List.setIfInBounds_toArray, List.set_cons_zero, List.set_cons_succ])
      go_cut [61] (fun v61 wc => ∃ (kq : Nat) (x61_59 : Bool), v61 = .bool x61_59 ∧ Aside0 (laws_FnExactReverseProgram.j1 kq t182 x61_59 a0_0 l0_1 t178 t179 t189 t190 = some r) ∧ Aside0 (kq ≤ kj10) ∧ Aside0 (Kd.R k125 125 wc w.heap.size (fun k_ => some k_ ≠ ((.slice Ao29 t185.length co29) : Value).ownBlock ∧ some k_ ≠ ((.slice Ao36 t190.length co36) : Value).ownBlock) (.slice Ao22 t179.length co22) t179) ∧ Aside0 (Kd.R k125 125 wc w.heap.size (fun k_ => some k_ ≠ ((.slice Ao22 t179.length co22) : Value).ownBlock ∧ some k_ ≠ ((.slice Ao36 t190.length co36) : Value).ownBlock) (.slice Ao29 t185.length co29) t202) ∧ Aside0 (Kd.R k125 125 wc w.heap.size (fun k_ => some k_ ≠ ((.slice Ao22 t179.length co22) : Value).ownBlock ∧ some k_ ≠ ((.slice Ao29 t185.length co29) : Value).ownBlock) (.slice Ao36 t190.length co36) t190) ∧ Aside0 (wc.heap[gb172]? = some (.cells #[.int .i16 a0_0, (.slice A0_1 l0_1.length c0_1)] 41 (0, 0))) ∧ Aside0 (wc.heap[gb183]? = some (.cells #[.int .i16 t178, (.slice Ao22 t179.length co22)] 45 (0, 0))) ∧ Aside0 (wc.heap[gb188]? = some (.cells #[.int .i16 t184, (.slice Ao29 t185.length co29)] 45 (0, 0))) ∧ Aside0 (wc.heap[gb194]? = some (.cells #[.int .i16 t189, (.slice Ao36 t190.length co36)] 45 (0, 0))) ∧ Aside0 (Below w.heap.size w wc))
      case first =>
       have H := HC60.out
       clear HC60
       by_cases c70 : t201 < 0
       ·rw [if_pos c70] at H
        have c70b0 : decide (t201 < 0) = true := decide_eq_true c70
        clear c70
        (first | rw [c70b0] | (simp only [i64_w, i32_w]; rw [c70b0]) | skip)
        have H' := Aside0.mk H
        clear H
        go_wp2
        go_meet
        case rel => exact ⟨_, (true), a43_, H', ⟨by have := HJ10.out; first | omega | exact Nat.le_refl _⟩, ⟨by (with_reducible repeat (first | apply Kd.R_alloc | apply Kd.R_drewN | apply Kd.R_drew)); exact Kd.R_mono HO_184001.out (fun _ hk => ⟨hk.1, hk.2.1⟩)⟩, ⟨by (with_reducible repeat (first | apply Kd.R_alloc | apply Kd.R_drewN | apply Kd.R_drew)); exact Kd.R_mono HO_189001.out (fun _ hk => ⟨hk.1.1, hk.1.2⟩)⟩, ⟨by (with_reducible repeat (first | apply Kd.R_alloc | apply Kd.R_drewN | apply Kd.R_drew)); exact Kd.R_mono HO_195001.out (fun _ hk => ⟨hk.1, hk.2.1⟩)⟩, ⟨by (with_reducible repeat (first | refine blk_drewN ?_ _ | refine blk_drew ?_ | refine blk_alloc ?_ _)); exact BK172.out⟩, ⟨by (with_reducible repeat (first | refine blk_drewN ?_ _ | refine blk_drew ?_ | refine blk_alloc ?_ _)); exact BK183.out⟩, ⟨by (with_reducible repeat (first | refine blk_drewN ?_ _ | refine blk_drew ?_ | refine blk_alloc ?_ _)); exact BK188.out⟩, ⟨by (with_reducible repeat (first | refine blk_drewN ?_ _ | refine blk_drew ?_ | refine blk_alloc ?_ _)); exact BK194.out⟩, ⟨by repeat (first | (with_reducible first | exact HB.out | apply below_alloc | apply pw_below_drewN | apply below_drew1 | refine below_set ?_ GE172.out | refine below_set ?_ GE183.out | refine below_set ?_ GE188.out | refine below_set ?_ GE194.out) | exact HB.out)⟩⟩
       ·rw [if_neg c70] at H
        have c70b0 : decide (t201 < 0) = false := decide_eq_false c70
        clear c70
        (first | rw [c70b0] | (simp only [i64_w, i32_w]; rw [c70b0]) | skip)
        replace H := Option.bind_eq_some_iff.mp H
        obtain ⟨t203, A710, H⟩ := H
        replace H : (if t203 = true then (laws_FnExactReverseProgram.j1 kj10 t182 (t193 != t182) a0_0 l0_1 t178 t179 t189 t190) else (laws_FnExactReverseProgram.j1 kj10 t182 true a0_0 l0_1 t178 t179 t189 t190)) = some r := H
        have A71 := Aside0.mk A710
        clear A710
        by_cases c72 : t203 = true
        ·subst c72
         have H1 : (laws_FnExactReverseProgram.j1 kj10 t182 (t193 != t182) a0_0 l0_1 t178 t179 t189 t190) = some r := by rw [if_pos rfl] at H; exact H
         clear H
         have H := H1
         clear H1
         have H' := Aside0.mk H
         clear H
         have hnb73 := NB194_172.out
         have hnc73 := NB172_194.out
         have hnb74 := NB194_183.out
         have hnc74 := NB183_194.out
         have hnb75 := NB194_188.out
         have hnc75 := NB188_194.out
         have hcz76_0 : w69.cell? ⟨gb194, 0, none⟩ = some (.int .i16 t189) := (blk_cell BK194.out 0).trans rfl
         have hcz76_1 : w69.cell? ⟨gb194, 1, none⟩ = some (.slice Ao36 t190.length co36) := (blk_cell BK194.out 1).trans rfl
         have hfz76_0 := blk_frozen BK194.out 0
         have hfz76_1 := blk_frozen BK194.out 1
         have hnb77 := NB183_172.out
         have hnc77 := NB172_183.out
         have hnb78 := NB183_188.out
         have hnc78 := NB188_183.out
         have hcz79_0 : w69.cell? ⟨gb183, 0, none⟩ = some (.int .i16 t178) := (blk_cell BK183.out 0).trans rfl
         have hcz79_1 : w69.cell? ⟨gb183, 1, none⟩ = some (.slice Ao22 t179.length co22) := (blk_cell BK183.out 1).trans rfl
         have hfz79_0 := blk_frozen BK183.out 0
         have hfz79_1 := blk_frozen BK183.out 1
         go_wp2_with (first | (go_at_call 32; (with_reducible refine (laws_eqProgram.calls kj10 t189 _ _ t190 t178 _ _ t179 true _ ?side1 ?side2 ?side3 ?side4 A71.out).mono ?_); (case side1 => exact a51_); (case side2 => exact (Kd.R_reads' HO_195001.out).2.1); (case side3 => exact a59_); (case side4 => exact (Kd.R_reads' HO_184001.out).2.1); rintro e w80 ⟨rfl, hb⟩; have n0_ := Aside0.mk (Kd.R_below a7_ hb); have n1_ := Aside0.mk (Kd.R_below a8_ hb); have n2_ := Aside0.mk (Kd.R_below a9_ hb); have n3_ := Aside0.mk (Kd.R_below a40_ hb); have n4_ := Aside0.mk (blk_below (g := gb172) a2_ hb); have n5_ := Aside0.mk (blk_below (g := gb183) a4_ hb); have n6_ := Aside0.mk (blk_below (g := gb188) a5_ hb); have n7_ := Aside0.mk (blk_below (g := gb194) a6_ hb); have n8_ := Aside0.mk (below_step a1_ hb); clear HO_184001; clear HO_189001; clear HO_195001; clear HO199; clear BK172; clear BK183; clear BK188; clear BK194; clear HB; have HO_184001 := n0_; have HO_189001 := n1_; have HO_195001 := n2_; have HO199 := n3_; have BK172 := n4_; have BK183 := n5_; have BK188 := n6_; have BK194 := n7_; have HB := n8_; clear n0_ n1_ n2_ n3_ n4_ n5_ n6_ n7_ n8_; (try clear hb); (try clear hb2); (try clear hk); (try clear hi)))
         go_meet
         case rel => exact ⟨_, ((t193 != t182)), a43_, H', ⟨by have := HJ10.out; first | omega | exact Nat.le_refl _⟩, ⟨by (with_reducible repeat (first | apply Kd.R_alloc | apply Kd.R_drewN | apply Kd.R_drew)); exact Kd.R_mono HO_184001.out (fun _ hk => ⟨hk.1, hk.2.1⟩)⟩, ⟨by (with_reducible repeat (first | apply Kd.R_alloc | apply Kd.R_drewN | apply Kd.R_drew)); exact Kd.R_mono HO_189001.out (fun _ hk => ⟨hk.1.1, hk.1.2⟩)⟩, ⟨by (with_reducible repeat (first | apply Kd.R_alloc | apply Kd.R_drewN | apply Kd.R_drew)); exact Kd.R_mono HO_195001.out (fun _ hk => ⟨hk.1, hk.2.1⟩)⟩, ⟨by (with_reducible repeat (first | refine blk_drewN ?_ _ | refine blk_drew ?_ | refine blk_alloc ?_ _)); exact BK172.out⟩, ⟨by (with_reducible repeat (first | refine blk_drewN ?_ _ | refine blk_drew ?_ | refine blk_alloc ?_ _)); exact BK183.out⟩, ⟨by (with_reducible repeat (first | refine blk_drewN ?_ _ | refine blk_drew ?_ | refine blk_alloc ?_ _)); exact BK188.out⟩, ⟨by (with_reducible repeat (first | refine blk_drewN ?_ _ | refine blk_drew ?_ | refine blk_alloc ?_ _)); exact BK194.out⟩, ⟨by repeat (first | (with_reducible first | exact HB.out | apply below_alloc | apply pw_below_drewN | apply below_drew1 | refine below_set ?_ GE172.out | refine below_set ?_ GE183.out | refine below_set ?_ GE188.out | refine below_set ?_ GE194.out) | exact HB.out)⟩⟩
        ·replace c72 := Bool.eq_false_iff.mpr c72
         subst c72
         have H1 : (laws_FnExactReverseProgram.j1 kj10 t182 true a0_0 l0_1 t178 t179 t189 t190) = some r := by rw [if_neg (show ¬ (false = true) by decide)] at H; exact H
         clear H
         have H := H1
         clear H1
         have H' := Aside0.mk H
         clear H
         have hnb81 := NB194_172.out
         have hnc81 := NB172_194.out
         have hnb82 := NB194_183.out
         have hnc82 := NB183_194.out
         have hnb83 := NB194_188.out
         have hnc83 := NB188_194.out
         have hcz84_0 : w69.cell? ⟨gb194, 0, none⟩ = some (.int .i16 t189) := (blk_cell BK194.out 0).trans rfl
         have hcz84_1 : w69.cell? ⟨gb194, 1, none⟩ = some (.slice Ao36 t190.length co36) := (blk_cell BK194.out 1).trans rfl
         have hfz84_0 := blk_frozen BK194.out 0
         have hfz84_1 := blk_frozen BK194.out 1
         have hnb85 := NB183_172.out
         have hnc85 := NB172_183.out
         have hnb86 := NB183_188.out
         have hnc86 := NB188_183.out
         have hcz87_0 : w69.cell? ⟨gb183, 0, none⟩ = some (.int .i16 t178) := (blk_cell BK183.out 0).trans rfl
         have hcz87_1 : w69.cell? ⟨gb183, 1, none⟩ = some (.slice Ao22 t179.length co22) := (blk_cell BK183.out 1).trans rfl
         have hfz87_0 := blk_frozen BK183.out 0
         have hfz87_1 := blk_frozen BK183.out 1
         go_wp2_with (first | (go_at_call 32; (with_reducible refine (laws_eqProgram.calls kj10 t189 _ _ t190 t178 _ _ t179 false _ ?side1 ?side2 ?side3 ?side4 A71.out).mono ?_); (case side1 => exact a51_); (case side2 => exact (Kd.R_reads' HO_195001.out).2.1); (case side3 => exact a59_); (case side4 => exact (Kd.R_reads' HO_184001.out).2.1); rintro e w88 ⟨rfl, hb⟩; have n0_ := Aside0.mk (Kd.R_below a7_ hb); have n1_ := Aside0.mk (Kd.R_below a8_ hb); have n2_ := Aside0.mk (Kd.R_below a9_ hb); have n3_ := Aside0.mk (Kd.R_below a40_ hb); have n4_ := Aside0.mk (blk_below (g := gb172) a2_ hb); have n5_ := Aside0.mk (blk_below (g := gb183) a4_ hb); have n6_ := Aside0.mk (blk_below (g := gb188) a5_ hb); have n7_ := Aside0.mk (blk_below (g := gb194) a6_ hb); have n8_ := Aside0.mk (below_step a1_ hb); clear HO_184001; clear HO_189001; clear HO_195001; clear HO199; clear BK172; clear BK183; clear BK188; clear BK194; clear HB; have HO_184001 := n0_; have HO_189001 := n1_; have HO_195001 := n2_; have HO199 := n3_; have BK172 := n4_; have BK183 := n5_; have BK188 := n6_; have BK194 := n7_; have HB := n8_; clear n0_ n1_ n2_ n3_ n4_ n5_ n6_ n7_ n8_; (try clear hb); (try clear hb2); (try clear hk); (try clear hi)))
         go_meet
         case rel => exact ⟨_, (true), a43_, H', ⟨by have := HJ10.out; first | omega | exact Nat.le_refl _⟩, ⟨by (with_reducible repeat (first | apply Kd.R_alloc | apply Kd.R_drewN | apply Kd.R_drew)); exact Kd.R_mono HO_184001.out (fun _ hk => ⟨hk.1, hk.2.1⟩)⟩, ⟨by (with_reducible repeat (first | apply Kd.R_alloc | apply Kd.R_drewN | apply Kd.R_drew)); exact Kd.R_mono HO_189001.out (fun _ hk => ⟨hk.1.1, hk.1.2⟩)⟩, ⟨by (with_reducible repeat (first | apply Kd.R_alloc | apply Kd.R_drewN | apply Kd.R_drew)); exact Kd.R_mono HO_195001.out (fun _ hk => ⟨hk.1, hk.2.1⟩)⟩, ⟨by (with_reducible repeat (first | refine blk_drewN ?_ _ | refine blk_drew ?_ | refine blk_alloc ?_ _)); exact BK172.out⟩, ⟨by (with_reducible repeat (first | refine blk_drewN ?_ _ | refine blk_drew ?_ | refine blk_alloc ?_ _)); exact BK183.out⟩, ⟨by (with_reducible repeat (first | refine blk_drewN ?_ _ | refine blk_drew ?_ | refine blk_alloc ?_ _)); exact BK188.out⟩, ⟨by (with_reducible repeat (first | refine blk_drewN ?_ _ | refine blk_drew ?_ | refine blk_alloc ?_ _)); exact BK194.out⟩, ⟨by repeat (first | (with_reducible first | exact HB.out | apply below_alloc | apply pw_below_drewN | apply below_drew1 | refine below_set ?_ GE172.out | refine below_set ?_ GE183.out | refine below_set ?_ GE188.out | refine below_set ?_ GE194.out) | exact HB.out)⟩⟩
      case rest =>
       clear HC60
       try clear c2
       try clear p2
       try clear c3
       try clear c3b0
       try clear c4
       try clear c5
       try clear c6
       try clear c7
       try clear c8
       try clear c20
       try clear c26
       try clear c27
       try clear c28
       try clear c29
       try clear c30
       try clear c31
       try clear c32
       try clear c33
       try clear c34
       try clear c38
       try clear c39
       try clear c40
       try clear c41
       try clear c43
       try clear c44
       try clear c47
       try clear c48
       try clear c49
       try clear c51
       try clear c52
       try clear c55
       try clear c58
       try clear c65
       try clear c66
       try clear c67
       try clear c70
       try clear c70b0
       try clear c72
       try clear c73
       try clear c74
       try clear c75
       try clear c77
       try clear c78
       try clear c81
       try clear c82
       try clear c83
       try clear c85
       try clear c86
       try clear hcz13_0
       try clear hcz13_1
       try clear hcz15_0
       try clear hcz15_1
       try clear hcz21_0
       try clear hcz21_1
       try clear hcz23_0
       try clear hcz23_1
       try clear hcz28_0
       try clear hcz28_1
       try clear hcz35_0
       try clear hcz35_1
       try clear hcz42_0
       try clear hcz42_1
       try clear hcz45_0
       try clear hcz45_1
       try clear hcz50_0
       try clear hcz50_1
       try clear hcz53_0
       try clear hcz53_1
       try clear hcz5_0
       try clear hcz5_1
       try clear hcz68_0
       try clear hcz68_1
       try clear hcz76_0
       try clear hcz76_1
       try clear hcz79_0
       try clear hcz79_1
       try clear hcz84_0
       try clear hcz84_1
       try clear hcz87_0
       try clear hcz87_1
       try clear hfz13_0
       try clear hfz13_1
       try clear hfz15_0
       try clear hfz15_1
       try clear hfz21_0
       try clear hfz21_1
       try clear hfz23_0
       try clear hfz23_1
       try clear hfz28_0
       try clear hfz28_1
       try clear hfz35_0
       try clear hfz35_1
       try clear hfz42_0
       try clear hfz42_1
       try clear hfz45_0
       try clear hfz45_1
       try clear hfz50_0
       try clear hfz50_1
       try clear hfz53_0
       try clear hfz53_1
       try clear hfz5_0
       try clear hfz5_1
       try clear hfz68_0
       try clear hfz68_1
       try clear hfz76_0
       try clear hfz76_1
       try clear hfz79_0
       try clear hfz79_1
       try clear hfz84_0
       try clear hfz84_1
       try clear hfz87_0
       try clear hfz87_1
       try clear p2
       obtain ⟨kq, x61_59, rfl, HA, HJ59, HO_184001, HO_189001, HO_195001, BK172, BK183, BK188, BK194, HB⟩ := hcut
       have hl189001_59 := (Kd.R_reads' HO_189001.out).1
       rw [hl189001_59] at HO_189001
       (try simp only [hl189001_59])
       (try simp only [hl189001_59] at BK172)
       (try simp only [hl189001_59] at BK183)
       (try simp only [hl189001_59] at BK188)
       (try simp only [hl189001_59] at BK194)
       (try simp only [hl189001_59] at HO_184001)
       (try simp only [hl189001_59] at HO_195001)
       cases kq with
       | zero => exact absurd HA.out (by simp [laws_FnExactReverseProgram.j1])
       | succ kj59 =>
        have H := HA.out
        clear HA
        simp only [laws_FnExactReverseProgram.j1] at H
        by_cases c89 : x61_59 = true
        ·subst c89
         have H1 : (some false) = some r := by rw [if_pos rfl] at H; exact H
         clear H
         have H := H1
         clear H1
         obtain rfl := Option.some.inj H
         go_wp2
         go_ret
         exact ⟨by first | rfl | (simp [errW_none, errW_some] <;> rfl) | (simp [*, errW_none, errW_some] <;> rfl), by repeat (first | (with_reducible first | exact HB.out | apply below_alloc | apply pw_below_drewN | apply below_drew1 | refine below_set ?_ GE172.out | refine below_set ?_ GE183.out | refine below_set ?_ GE188.out | refine below_set ?_ GE194.out) | exact HB.out)⟩
        ·replace c89 := Bool.eq_false_iff.mpr c89
         subst c89
         have H1 : ((laws_markProgram.f kj59 t189 t190 1).bind fun bt204 => ((laws_heldProgram.f kj59 t189 bt204.2 1).bind fun t206 => (if t206 < 0 then (some false) else (if t206 = bt204.1 then ((laws_toProgram.f kj59 a0_0 l0_1).bind fun bt207 => ((impl_ReverseProgram.f kj59 bt207.1 bt207.2).bind fun bt211 => ((laws_eqProgram.f kj59 bt211.1 bt211.2.1 t178 t179).bind fun t217 => (if t217 = true then (laws_FnExactReverseProgram.j2 kj59 bt204.1 (bt211.2.2 != t182) t189 bt204.2) else (laws_FnExactReverseProgram.j2 kj59 bt204.1 true t189 bt204.2))))) else (some false))))) = some r := by rw [if_neg (show ¬ (false = true) by decide)] at H; exact H
         clear H
         have H := H1
         clear H1
         replace H := Option.bind_eq_some_iff.mp H
         obtain ⟨⟨t204, t205⟩, A900, H⟩ := H
         replace H : ((laws_heldProgram.f kj59 t189 t205 1).bind fun t206 => (if t206 < 0 then (some false) else (if t206 = t204 then ((laws_toProgram.f kj59 a0_0 l0_1).bind fun bt207 => ((impl_ReverseProgram.f kj59 bt207.1 bt207.2).bind fun bt211 => ((laws_eqProgram.f kj59 bt211.1 bt211.2.1 t178 t179).bind fun t217 => (if t217 = true then (laws_FnExactReverseProgram.j2 kj59 t204 (bt211.2.2 != t182) t189 t205) else (laws_FnExactReverseProgram.j2 kj59 t204 true t189 t205))))) else (some false)))) = some r := H
         have A90 := Aside0.mk A900
         clear A900
         replace H := Option.bind_eq_some_iff.mp H
         obtain ⟨t206, A910, H⟩ := H
         replace H : (if t206 < 0 then (some false) else (if t206 = t204 then ((laws_toProgram.f kj59 a0_0 l0_1).bind fun bt207 => ((impl_ReverseProgram.f kj59 bt207.1 bt207.2).bind fun bt211 => ((laws_eqProgram.f kj59 bt211.1 bt211.2.1 t178 t179).bind fun t217 => (if t217 = true then (laws_FnExactReverseProgram.j2 kj59 t204 (bt211.2.2 != t182) t189 t205) else (laws_FnExactReverseProgram.j2 kj59 t204 true t189 t205))))) else (some false))) = some r := H
         have A91 := Aside0.mk A910
         clear A910
         by_cases c92 : t206 < 0
         ·rw [if_pos c92] at H
          have c92b0 : decide (t206 < 0) = true := decide_eq_true c92
          clear c92
          obtain rfl := Option.some.inj H
          have hnb93 := NB194_172.out
          have hnc93 := NB172_194.out
          have hnb94 := NB194_183.out
          have hnc94 := NB183_194.out
          have hnb95 := NB194_188.out
          have hnc95 := NB188_194.out
          have hcz96_0 : wc.cell? ⟨gb194, 0, none⟩ = some (.int .i16 t189) := (blk_cell BK194.out 0).trans rfl
          have hcz96_1 : wc.cell? ⟨gb194, 1, none⟩ = some (.slice Ao36 t190.length co36) := (blk_cell BK194.out 1).trans rfl
          have hfz96_0 := blk_frozen BK194.out 0
          have hfz96_1 := blk_frozen BK194.out 1
          go_wp2_with (first | ((with_reducible refine gate_callee (f := 33) rfl ?_); refine goesL_ (some 64) rfl rfl Try.func33 (by kernel_rfl) rfl #[.agg #[.int .i16 t189, .slice Ao36 t190.length co36], .int .i64 1] rfl a3_ ?_; (with_reducible refine (laws_markProgram.calls kj59 t189 (fun k_ => some k_ = (.slice Ao36 t190.length co36 : Value).ownBlock) (.slice Ao36 t190.length co36) t190 1 t204 t205 w _ ?side1 ?side2 A90.out).mono ?_); (case side1 => exact a53_); (case side2 => exact Kd.R_tight rfl HO_195001.out); rintro e w97 ⟨rfl, hy0, hb, hkp⟩; refine ⟨_, rfl, ?_⟩; have n0_ := Aside0.mk (Kd.R_mono (ok' := fun k_ => nbk k_ Ao29 t202.length co29 ∧ nbk k_ Ao36 t190.length co36) (Kd.R_keptB (HO_184001.out) hkp (fun k_ hk_ hs_ => (hk_.2) hs_)) (fun k_ hk_ => ⟨hk_.1.1, hk_.1.2⟩)); have n1_ := Aside0.mk (Kd.R_mono (ok' := fun k_ => nbk k_ Ao22 t179.length co22 ∧ nbk k_ Ao36 t190.length co36) (Kd.R_keptB (HO_189001.out) hkp (fun k_ hk_ hs_ => (hk_.2) hs_)) (fun k_ hk_ => ⟨hk_.1.1, hk_.1.2⟩)); have n2_ := Aside0.mk (Kd.R_reok rfl hy0 (fun k_ e_ => HO_195001.out.1 k_ e_)); have n3_ := Aside0.mk (blk_kept a2_ hkp (fun hs_ => (fun e_ => (Kd.R_ne HO_195001.out BK172.out (by decide)) e_) hs_)); have n4_ := Aside0.mk (blk_kept a4_ hkp (fun hs_ => (fun e_ => (Kd.R_ne HO_195001.out BK183.out (by decide)) e_) hs_)); have n5_ := Aside0.mk (blk_kept a5_ hkp (fun hs_ => (fun e_ => (Kd.R_ne HO_195001.out BK188.out (by decide)) e_) hs_)); have n6_ := Aside0.mk (blk_kept a6_ hkp (fun hs_ => (fun e_ => (Kd.R_ne HO_195001.out BK194.out (by decide)) e_) hs_)); have n7_ := Aside0.mk (hb); clear HO_184001; clear HO_189001; clear HO_195001; clear BK172; clear BK183; clear BK188; clear BK194; clear HB; have HO_184001 := n0_; have HO_189001 := n1_; have HO_195001 := n2_; have BK172 := n3_; have BK183 := n4_; have BK188 := n5_; have BK194 := n6_; have HB := n7_; clear n0_ n1_ n2_ n3_ n4_ n5_ n6_ n7_; (try clear hb); (try clear hkp); (try clear hy0); have hcz98_0 : w97.cell? ⟨gb194, 0, none⟩ = some (.int .i16 t189) := (blk_cell BK194.out 0).trans rfl; have hcz98_1 : w97.cell? ⟨gb194, 1, none⟩ = some (.slice Ao36 t190.length co36) := (blk_cell BK194.out 1).trans rfl; have hfz98_0 := blk_frozen BK194.out 0; have hfz98_1 := blk_frozen BK194.out 1) | ((with_reducible refine gate_callee (f := 34) rfl ?_); refine goesL_ (some 67) rfl rfl Try.func34 (by kernel_rfl) rfl #[.agg #[.int .i16 t189, .slice Ao36 t205.length co36], .int .i64 1] rfl a29_ ?_; (with_reducible refine (laws_heldProgram.calls kj59 t189 _ _ t205 1 t206 _ ?side1 ?side2 A91.out).mono ?_); (case side1 => exact a51_); (case side2 => exact a61_); rintro e w99 ⟨rfl, hb⟩; refine ⟨_, rfl, ?_⟩; have n0_ := Aside0.mk (Kd.R_below a7_ hb); have n1_ := Aside0.mk (Kd.R_below a8_ hb); have n2_ := Aside0.mk (Kd.R_below a9_ hb); have n3_ := Aside0.mk (blk_below (g := gb172) a2_ hb); have n4_ := Aside0.mk (blk_below (g := gb183) a4_ hb); have n5_ := Aside0.mk (blk_below (g := gb188) a5_ hb); have n6_ := Aside0.mk (blk_below (g := gb194) a6_ hb); have n7_ := Aside0.mk (below_step a1_ hb); clear HO_184001; clear HO_189001; clear HO_195001; clear BK172; clear BK183; clear BK188; clear BK194; clear HB; have HO_184001 := n0_; have HO_189001 := n1_; have HO_195001 := n2_; have BK172 := n3_; have BK183 := n4_; have BK188 := n5_; have BK194 := n6_; have HB := n7_; clear n0_ n1_ n2_ n3_ n4_ n5_ n6_ n7_; (try clear hb); (try clear hb2); (try clear hk); (try clear hi)))
          go_ret
          exact ⟨by first | rfl | (simp [errW_none, errW_some] <;> rfl) | (simp [*, errW_none, errW_some] <;> rfl), by repeat (first | (with_reducible first | exact HB.out | apply below_alloc | apply pw_below_drewN | apply below_drew1 | refine below_set ?_ GE172.out | refine below_set ?_ GE183.out | refine below_set ?_ GE188.out | refine below_set ?_ GE194.out) | exact HB.out)⟩
         ·rw [if_neg c92] at H
          have c92b0 : decide (t206 < 0) = false := decide_eq_false c92
          clear c92
          by_cases c100 : t206 = t204
          ·rw [if_pos c100] at H
           have c100b0 : (t206 == t204) = true := beq_iff_eq.mpr c100
           have c100b1 : (t206 != t204) = false := bne_eq_false_iff_eq.mpr c100
           clear c100
           replace H := Option.bind_eq_some_iff.mp H
           obtain ⟨⟨t207, t208⟩, A1010, H⟩ := H
           replace H : ((impl_ReverseProgram.f kj59 t207 t208).bind fun bt211 => ((laws_eqProgram.f kj59 bt211.1 bt211.2.1 t178 t179).bind fun t217 => (if t217 = true then (laws_FnExactReverseProgram.j2 kj59 t204 (bt211.2.2 != t182) t189 t205) else (laws_FnExactReverseProgram.j2 kj59 t204 true t189 t205)))) = some r := H
           have A101 := Aside0.mk A1010
           clear A1010
           replace H := Option.bind_eq_some_iff.mp H
           obtain ⟨⟨t211, t212, t215⟩, A1020, H⟩ := H
           replace H : ((laws_eqProgram.f kj59 t211 t212 t178 t179).bind fun t217 => (if t217 = true then (laws_FnExactReverseProgram.j2 kj59 t204 (t215 != t182) t189 t205) else (laws_FnExactReverseProgram.j2 kj59 t204 true t189 t205))) = some r := H
           have A102 := Aside0.mk A1020
           clear A1020
           have HC103 := Aside0.mk H
           clear H
           have hnb104 := NB194_172.out
           have hnc104 := NB172_194.out
           have hnb105 := NB194_183.out
           have hnc105 := NB183_194.out
           have hnb106 := NB194_188.out
           have hnc106 := NB188_194.out
           have hcz107_0 : wc.cell? ⟨gb194, 0, none⟩ = some (.int .i16 t189) := (blk_cell BK194.out 0).trans rfl
           have hcz107_1 : wc.cell? ⟨gb194, 1, none⟩ = some (.slice Ao36 t190.length co36) := (blk_cell BK194.out 1).trans rfl
           have hfz107_0 := blk_frozen BK194.out 0
           have hfz107_1 := blk_frozen BK194.out 1
           go_upto_region 25 with (first | ((with_reducible refine gate_callee (f := 33) rfl ?_); refine goesL_ (some 64) rfl rfl Try.func33 (by kernel_rfl) rfl #[.agg #[.int .i16 t189, .slice Ao36 t190.length co36], .int .i64 1] rfl a3_ ?_; (with_reducible refine (laws_markProgram.calls kj59 t189 (fun k_ => some k_ = (.slice Ao36 t190.length co36 : Value).ownBlock) (.slice Ao36 t190.length co36) t190 1 t204 t205 w _ ?side1 ?side2 A90.out).mono ?_); (case side1 => exact a53_); (case side2 => exact Kd.R_tight rfl HO_195001.out); rintro e w108 ⟨rfl, hy0, hb, hkp⟩; refine ⟨_, rfl, ?_⟩; have n0_ := Aside0.mk (Kd.R_mono (ok' := fun k_ => nbk k_ Ao29 t202.length co29 ∧ nbk k_ Ao36 t190.length co36) (Kd.R_keptB (HO_184001.out) hkp (fun k_ hk_ hs_ => (hk_.2) hs_)) (fun k_ hk_ => ⟨hk_.1.1, hk_.1.2⟩)); have n1_ := Aside0.mk (Kd.R_mono (ok' := fun k_ => nbk k_ Ao22 t179.length co22 ∧ nbk k_ Ao36 t190.length co36) (Kd.R_keptB (HO_189001.out) hkp (fun k_ hk_ hs_ => (hk_.2) hs_)) (fun k_ hk_ => ⟨hk_.1.1, hk_.1.2⟩)); have n2_ := Aside0.mk (Kd.R_reok rfl hy0 (fun k_ e_ => HO_195001.out.1 k_ e_)); have n3_ := Aside0.mk (blk_kept a2_ hkp (fun hs_ => (fun e_ => (Kd.R_ne HO_195001.out BK172.out (by decide)) e_) hs_)); have n4_ := Aside0.mk (blk_kept a4_ hkp (fun hs_ => (fun e_ => (Kd.R_ne HO_195001.out BK183.out (by decide)) e_) hs_)); have n5_ := Aside0.mk (blk_kept a5_ hkp (fun hs_ => (fun e_ => (Kd.R_ne HO_195001.out BK188.out (by decide)) e_) hs_)); have n6_ := Aside0.mk (blk_kept a6_ hkp (fun hs_ => (fun e_ => (Kd.R_ne HO_195001.out BK194.out (by decide)) e_) hs_)); have n7_ := Aside0.mk (hb); clear HO_184001; clear HO_189001; clear HO_195001; clear BK172; clear BK183; clear BK188; clear BK194; clear HB; have HO_184001 := n0_; have HO_189001 := n1_; have HO_195001 := n2_; have BK172 := n3_; have BK183 := n4_; have BK188 := n5_; have BK194 := n6_; have HB := n7_; clear n0_ n1_ n2_ n3_ n4_ n5_ n6_ n7_; (try clear hb); (try clear hkp); (try clear hy0); have hcz109_0 : w108.cell? ⟨gb194, 0, none⟩ = some (.int .i16 t189) := (blk_cell BK194.out 0).trans rfl; have hcz109_1 : w108.cell? ⟨gb194, 1, none⟩ = some (.slice Ao36 t190.length co36) := (blk_cell BK194.out 1).trans rfl; have hfz109_0 := blk_frozen BK194.out 0; have hfz109_1 := blk_frozen BK194.out 1) | ((with_reducible refine gate_callee (f := 34) rfl ?_); refine goesL_ (some 67) rfl rfl Try.func34 (by kernel_rfl) rfl #[.agg #[.int .i16 t189, .slice Ao36 t205.length co36], .int .i64 1] rfl a29_ ?_; (with_reducible refine (laws_heldProgram.calls kj59 t189 _ _ t205 1 t206 _ ?side1 ?side2 A91.out).mono ?_); (case side1 => exact a51_); (case side2 => exact a61_); rintro e w110 ⟨rfl, hb⟩; refine ⟨_, rfl, ?_⟩; have n0_ := Aside0.mk (Kd.R_below a7_ hb); have n1_ := Aside0.mk (Kd.R_below a8_ hb); have n2_ := Aside0.mk (Kd.R_below a9_ hb); have n3_ := Aside0.mk (blk_below (g := gb172) a2_ hb); have n4_ := Aside0.mk (blk_below (g := gb183) a4_ hb); have n5_ := Aside0.mk (blk_below (g := gb188) a5_ hb); have n6_ := Aside0.mk (blk_below (g := gb194) a6_ hb); have n7_ := Aside0.mk (below_step a1_ hb); clear HO_184001; clear HO_189001; clear HO_195001; clear BK172; clear BK183; clear BK188; clear BK194; clear HB; have HO_184001 := n0_; have HO_189001 := n1_; have HO_195001 := n2_; have BK172 := n3_; have BK183 := n4_; have BK188 := n5_; have BK194 := n6_; have HB := n7_; clear n0_ n1_ n2_ n3_ n4_ n5_ n6_ n7_; (try clear hb); (try clear hb2); (try clear hk); (try clear hi); have hnb111 := NB172_183.out; have hnc111 := NB183_172.out; have hnb112 := NB172_188.out; have hnc112 := NB188_172.out; have hcz113_0 : w110.cell? ⟨gb172, 0, none⟩ = some (.int .i16 a0_0) := (blk_cell BK172.out 0).trans rfl; have hcz113_1 : w110.cell? ⟨gb172, 1, none⟩ = some (.slice A0_1 l0_1.length c0_1) := (blk_cell BK172.out 1).trans rfl; have hfz113_0 := blk_frozen BK172.out 0; have hfz113_1 := blk_frozen BK172.out 1) | ((with_reducible refine gate_callee (f := 30) rfl ?_); refine goesL_ (some 75) rfl rfl Try.func30 (by kernel_rfl) rfl #[.agg #[.int .i16 a0_0, .slice A0_1 l0_1.length c0_1]] rfl a3_ ?_; (with_reducible refine (laws_toProgram.calls kj59 a0_0 _ _ l0_1 t207 t208 _ ?side1 ?side2 A101.out).mono ?_); (case side1 => exact a52_); (case side2 => exact HC0_1.out); rintro e w114 ⟨v209, rfl, ho0, hb⟩; refine ⟨_, rfl, ?_⟩; have n0_ := Aside0.mk (Kd.R_elder' a7_ (Kd.R_base ho0) hb); have n1_ := Aside0.mk (Kd.R_elder' a8_ (Kd.R_base ho0) hb); have n2_ := Aside0.mk (Kd.R_elder' a9_ (Kd.R_base ho0) hb); have n3_ := Aside0.mk (Kd.R_lower (Kd.R_new' (Kd.R_new' (Kd.R_new' ho0 (Kd.R_lt a7_)) (Kd.R_lt a8_)) (Kd.R_lt a9_)) (below_size a1_)); have n4_ := Aside0.mk (blk_below (g := gb172) a2_ hb); have n5_ := Aside0.mk (blk_below (g := gb183) a4_ hb); have n6_ := Aside0.mk (blk_below (g := gb188) a5_ hb); have n7_ := Aside0.mk (blk_below (g := gb194) a6_ hb); have n8_ := Aside0.mk (below_step a1_ hb); clear HO_184001; clear HO_189001; clear HO_195001; clear BK172; clear BK183; clear BK188; clear BK194; clear HB; have HO_184001 := n0_; have HO_189001 := n1_; have HO_195001 := n2_; have HO210 := n3_; have BK172 := n4_; have BK183 := n5_; have BK188 := n6_; have BK194 := n7_; have HB := n8_; clear n0_ n1_ n2_ n3_ n4_ n5_ n6_ n7_ n8_; (try clear hb); (try clear hb2); (try clear hk); (try clear hi); (try clear ho0); obtain ⟨Ao115, co115, eo115⟩ := Kd.R_slice HO210.out; subst eo115) | ((with_reducible refine gate_callee (f := 31) rfl ?_); refine goesL_ (some 76) rfl rfl Try.func31 (by kernel_rfl) rfl #[.agg #[.int .i16 t207, .slice Ao115 t208.length co115]] rfl a3_ ?_; (with_reducible refine (impl_ReverseProgram.calls kj59 t207 _ _ t208 t211 t212 t215 _ ?side1 ?side2 A102.out).mono ?_); (case side1 => repeat (first | exact (Kd.R_reads' HO210.out).2.2 | (with_reducible refine Kd.C_alloc ?_ _) | (with_reducible refine Kd.C_drewN ?_ _) | (with_reducible refine Kd.C_drew ?_))); (case side2 => exact (Kd.R_reads' HO210.out).2.1); rintro e w116 ⟨v213, rfl, ho0, hb⟩; refine ⟨_, rfl, ?_⟩; have n0_ := Aside0.mk (Kd.R_elder' a7_ (Kd.R_base ho0) hb); have n1_ := Aside0.mk (Kd.R_elder' a8_ (Kd.R_base ho0) hb); have n2_ := Aside0.mk (Kd.R_elder' a9_ (Kd.R_base ho0) hb); have n3_ := Aside0.mk (Kd.R_elder' a45_ (Kd.R_base ho0) hb); have n4_ := Aside0.mk (Kd.R_lower (Kd.R_new' (Kd.R_new' (Kd.R_new' (Kd.R_new' ho0 (Kd.R_lt a7_)) (Kd.R_lt a8_)) (Kd.R_lt a9_)) (Kd.R_lt a45_)) (below_size a1_)); have n5_ := Aside0.mk (blk_below (g := gb172) a2_ hb); have n6_ := Aside0.mk (blk_below (g := gb183) a4_ hb); have n7_ := Aside0.mk (blk_below (g := gb188) a5_ hb); have n8_ := Aside0.mk (blk_below (g := gb194) a6_ hb); have n9_ := Aside0.mk (below_step a1_ hb); clear HO_184001; clear HO_189001; clear HO_195001; clear HO210; clear BK172; clear BK183; clear BK188; clear BK194; clear HB; have HO_184001 := n0_; have HO_189001 := n1_; have HO_195001 := n2_; have HO210 := n3_; have HO214 := n4_; have BK172 := n5_; have BK183 := n6_; have BK188 := n7_; have BK194 := n8_; have HB := n9_; clear n0_ n1_ n2_ n3_ n4_ n5_ n6_ n7_ n8_ n9_; (try clear hb); (try clear hb2); (try clear hk); (try clear hi); (try clear ho0)) | ((with_reducible refine gate_dst (N := 12) rfl ?_); refine box_event ?hg (N := 12) ?hd (cs := #[.int .i16 0, .slice none 0 0]) (t := 45) ?hr ?_; (case hd => rfl); (case hg => rfl); (case hr => exact a62_); intro gb216 hg w117 hbox hb; have n0_ := Aside0.mk (Kd.R_below a7_ hb); have n1_ := Aside0.mk (Kd.R_below a8_ hb); have n2_ := Aside0.mk (Kd.R_below a9_ hb); have n3_ := Aside0.mk (Kd.R_below a45_ hb); have n4_ := Aside0.mk (Kd.R_below (by (with_reducible repeat (first | apply Kd.R_alloc | apply Kd.R_drewN | apply Kd.R_drew)); exact HO214.out) hb); have n5_ := Aside0.mk (blk_below (g := gb172) a2_ hb); have n6_ := Aside0.mk (blk_below (g := gb183) a4_ hb); have n7_ := Aside0.mk (blk_below (g := gb188) a5_ hb); have n8_ := Aside0.mk (blk_below (g := gb194) a6_ hb); have n9_ := Aside0.mk (below_step a1_ hb); have n10_ := Aside0.mk (hbox); have n11_ := Aside0.mk ((by rw [hg]; exact (below_size a1_) : w.heap.size ≤ gb216)); have n12_ := Aside0.mk ((by rw [hg]; exact (below_size a1_) : w.heap.size ≤ gb216)); have n13_ := Aside0.mk ((a47_ : gb172 ≠ gb216)); have n14_ := Aside0.mk ((a48_ : gb216 ≠ gb172)); have n15_ := Aside0.mk ((a49_ : gb183 ≠ gb216)); have n16_ := Aside0.mk ((a50_ : gb216 ≠ gb183)); have n17_ := Aside0.mk ((by rw [hg]; exact Nat.ne_of_lt (blk_lt (g := gb188) (o := .cells #[.int .i16 t184, .slice Ao29 t202.length co29] 45 (0, 0)) a5_) : gb188 ≠ gb216)); have n18_ := Aside0.mk ((by rw [hg]; exact Nat.ne_of_gt (blk_lt (g := gb188) (o := .cells #[.int .i16 t184, .slice Ao29 t202.length co29] 45 (0, 0)) a5_) : gb216 ≠ gb188)); have n19_ := Aside0.mk ((by rw [hg]; exact Nat.ne_of_lt (blk_lt (g := gb194) (o := .cells #[.int .i16 t189, .slice Ao36 t190.length co36] 45 (0, 0)) a6_) : gb194 ≠ gb216)); have n20_ := Aside0.mk ((by rw [hg]; exact Nat.ne_of_gt (blk_lt (g := gb194) (o := .cells #[.int .i16 t189, .slice Ao36 t190.length co36] 45 (0, 0)) a6_) : gb216 ≠ gb194)); clear HO_184001; clear HO_189001; clear HO_195001; clear HO210; clear HO214; clear BK172; clear BK183; clear BK188; clear BK194; clear HB; have HO_184001 := n0_; have HO_189001 := n1_; have HO_195001 := n2_; have HO210 := n3_; have HO214 := n4_; have BK172 := n5_; have BK183 := n6_; have BK188 := n7_; have BK194 := n8_; have HB := n9_; have BK216 := n10_; have GW216 := n11_; have GE216 := n12_; have NB172_216 := n13_; have NB216_172 := n14_; have NB183_216 := n15_; have NB216_183 := n16_; have NB188_216 := n17_; have NB216_188 := n18_; have NB194_216 := n19_; have NB216_194 := n20_; clear n0_ n1_ n2_ n3_ n4_ n5_ n6_ n7_ n8_ n9_ n10_ n11_ n12_ n13_ n14_ n15_ n16_ n17_ n18_ n19_ n20_; clear hb hbox hg; have hnb118 := NB216_172.out; have hnc118 := NB172_216.out; have hnb119 := NB216_183.out; have hnc119 := NB183_216.out; have hnb120 := NB216_188.out; have hnc120 := NB188_216.out; have hnb121 := NB216_194.out; have hnc121 := NB194_216.out; have hcz122_0 : w117.cell? ⟨gb216, 0, none⟩ = some (.int .i16 0) := (blk_cell BK216.out 0).trans rfl; have hcz122_1 : w117.cell? ⟨gb216, 1, none⟩ = some (.slice none 0 0) := (blk_cell BK216.out 1).trans rfl; have hfz122_0 := blk_frozen BK216.out 0; have hfz122_1 := blk_frozen BK216.out 1; obtain ⟨Ao123, co123, eo123⟩ := Kd.R_slice HO214.out; subst eo123))
           (try simp only [Act.put, List.setIfInBounds_toArray, List.set_cons_zero, List.set_cons_succ])
           go_cut [87] (fun v87 wc => ∃ (kq : Nat) (x87_102 : Bool), v87 = .bool x87_102 ∧ Aside0 (laws_FnExactReverseProgram.j2 kq t204 x87_102 t189 t205 = some r) ∧ Aside0 (kq ≤ kj59) ∧ Aside0 (Kd.R k125 125 wc w.heap.size (fun k_ => some k_ ≠ ((.slice Ao29 t202.length co29) : Value).ownBlock ∧ some k_ ≠ ((.slice Ao36 t190.length co36) : Value).ownBlock ∧ some k_ ≠ ((.slice Ao123 t212.length co123) : Value).ownBlock) (.slice Ao22 t179.length co22) t179) ∧ Aside0 (Kd.R k125 125 wc w.heap.size (fun k_ => some k_ ≠ ((.slice Ao22 t179.length co22) : Value).ownBlock ∧ some k_ ≠ ((.slice Ao36 t190.length co36) : Value).ownBlock ∧ some k_ ≠ ((.slice Ao123 t212.length co123) : Value).ownBlock) (.slice Ao29 t202.length co29) t202) ∧ Aside0 (Kd.R k125 125 wc w.heap.size (fun k_ => some k_ ≠ ((.slice Ao22 t179.length co22) : Value).ownBlock ∧ some k_ ≠ ((.slice Ao29 t202.length co29) : Value).ownBlock ∧ some k_ ≠ ((.slice Ao123 t212.length co123) : Value).ownBlock) (.slice Ao36 t190.length co36) t205) ∧ Aside0 (Kd.R k125 125 wc w.heap.size (fun k_ => some k_ ≠ ((.slice Ao22 t179.length co22) : Value).ownBlock ∧ some k_ ≠ ((.slice Ao29 t202.length co29) : Value).ownBlock ∧ some k_ ≠ ((.slice Ao36 t190.length co36) : Value).ownBlock) (.slice Ao123 t212.length co123) t212) ∧ Aside0 (wc.heap[gb172]? = some (.cells #[.int .i16 a0_0, (.slice A0_1 l0_1.length c0_1)] 41 (0, 0))) ∧ Aside0 (wc.heap[gb183]? = some (.cells #[.int .i16 t178, (.slice Ao22 t179.length co22)] 45 (0, 0))) ∧ Aside0 (wc.heap[gb188]? = some (.cells #[.int .i16 t184, (.slice Ao29 t202.length co29)] 45 (0, 0))) ∧ Aside0 (wc.heap[gb194]? = some (.cells #[.int .i16 t189, (.slice Ao36 t190.length co36)] 45 (0, 0))) ∧ Aside0 (wc.heap[gb216]? = some (.cells #[.int .i16 t211, (.slice Ao123 t212.length co123)] 45 (0, 0))) ∧ Aside0 (Below w.heap.size w wc))
           case first =>
            have H := HC103.out
            clear HC103
            replace H := Option.bind_eq_some_iff.mp H
            obtain ⟨t217, A1240, H⟩ := H
            replace H : (if t217 = true then (laws_FnExactReverseProgram.j2 kj59 t204 (t215 != t182) t189 t205) else (laws_FnExactReverseProgram.j2 kj59 t204 true t189 t205)) = some r := H
            have A124 := Aside0.mk A1240
            clear A1240
            by_cases c125 : t217 = true
            ·subst c125
             have H1 : (laws_FnExactReverseProgram.j2 kj59 t204 (t215 != t182) t189 t205) = some r := by rw [if_pos rfl] at H; exact H
             clear H
             have H := H1
             clear H1
             have H' := Aside0.mk H
             clear H
             have hnb126 := NB216_172.out
             have hnc126 := NB172_216.out
             have hnb127 := NB216_183.out
             have hnc127 := NB183_216.out
             have hnb128 := NB216_188.out
             have hnc128 := NB188_216.out
             have hnb129 := NB216_194.out
             have hnc129 := NB194_216.out
             have hcz130_0 : w117.cell? ⟨gb216, 0, none⟩ = some (.int .i16 0) := (blk_cell BK216.out 0).trans rfl
             have hcz130_1 : w117.cell? ⟨gb216, 1, none⟩ = some (.slice none 0 0) := (blk_cell BK216.out 1).trans rfl
             have hfz130_0 := blk_frozen BK216.out 0
             have hfz130_1 := blk_frozen BK216.out 1
             have hnb131 := NB183_172.out
             have hnc131 := NB172_183.out
             have hnb132 := NB183_188.out
             have hnc132 := NB188_183.out
             have hnb133 := NB183_194.out
             have hnc133 := NB194_183.out
             have hcz134_0 : w117.cell? ⟨gb183, 0, none⟩ = some (.int .i16 t178) := (blk_cell BK183.out 0).trans rfl
             have hcz134_1 : w117.cell? ⟨gb183, 1, none⟩ = some (.slice Ao22 t179.length co22) := (blk_cell BK183.out 1).trans rfl
             have hfz134_0 := blk_frozen BK183.out 0
             have hfz134_1 := blk_frozen BK183.out 1
             go_wp2_with (first | ((with_reducible refine gate_callee (f := 32) rfl ?_); refine goesL_ (some 81) rfl rfl Try.func32 (by kernel_rfl) rfl #[.agg #[.int .i16 t211, .slice Ao123 t212.length co123], .agg #[.int .i16 t178, .slice Ao22 t179.length co22]] rfl a3_ ?_; (with_reducible refine (laws_eqProgram.calls kj59 t211 _ _ t212 t178 _ _ t179 true _ ?side1 ?side2 ?side3 ?side4 A124.out).mono ?_); (case side1 => exact a54_); (case side2 => exact (Kd.R_reads' HO214.out).2.1); (case side3 => exact a55_); (case side4 => exact (Kd.R_reads' HO_184001.out).2.1); rintro e w135 ⟨rfl, hb⟩; refine ⟨_, rfl, ?_⟩; have n0_ := Aside0.mk (Kd.R_below a12_ hb); have n1_ := Aside0.mk (Kd.R_below a30_ hb); have n2_ := Aside0.mk (Kd.R_below a31_ hb); have n3_ := Aside0.mk (Kd.R_below a32_ hb); have n4_ := Aside0.mk (Kd.R_below a13_ hb); have n5_ := Aside0.mk (blk_below (g := gb172) (o := .cells #[.int .i16 a0_0, .slice A0_1 l0_1.length c0_1] 41 (0, 0)) a25_ hb); have n6_ := Aside0.mk (blk_below (g := gb183) (o := .cells #[.int .i16 t178, .slice Ao22 t179.length co22] 45 (0, 0)) a26_ hb); have n7_ := Aside0.mk (blk_below (g := gb188) (o := .cells #[.int .i16 t184, .slice Ao29 t202.length co29] 45 (0, 0)) a27_ hb); have n8_ := Aside0.mk (blk_below (g := gb194) (o := .cells #[.int .i16 t189, .slice Ao36 t190.length co36] 45 (0, 0)) a28_ hb); have n9_ := Aside0.mk (blk_below (g := gb216) (o := .cells #[.int .i16 t211, .slice Ao123 t212.length co123] 45 (0, 0)) a20_ hb); have n10_ := Aside0.mk (below_step a11_ hb); clear HO_184001; clear HO_189001; clear HO_195001; clear HO210; clear HO214; clear BK172; clear BK183; clear BK188; clear BK194; clear BK216; clear HB; have HO_184001 := n0_; have HO_189001 := n1_; have HO_195001 := n2_; have HO210 := n3_; have HO214 := n4_; have BK172 := n5_; have BK183 := n6_; have BK188 := n7_; have BK194 := n8_; have BK216 := n9_; have HB := n10_; clear n0_ n1_ n2_ n3_ n4_ n5_ n6_ n7_ n8_ n9_ n10_; (try clear hb); (try clear hb2); (try clear hk); (try clear hi)))
             go_meet
             case rel => exact ⟨_, ((t215 != t182)), a43_, H', ⟨by have := HJ10.out; have := HJ59.out; first | omega | exact Nat.le_refl _⟩, ⟨by (try simp only [hl189001_59]); (with_reducible repeat (first | apply Kd.R_alloc | apply Kd.R_drewN | apply Kd.R_drew)); exact Kd.R_mono HO_184001.out (fun _ hk => ⟨hk.1.1.1, ⟨hk.1.1.2, hk.2⟩⟩)⟩, ⟨by (try simp only [hl189001_59]); (with_reducible repeat (first | apply Kd.R_alloc | apply Kd.R_drewN | apply Kd.R_drew)); exact Kd.R_mono HO_189001.out (fun _ hk => ⟨hk.1.1.1, ⟨hk.1.1.2, hk.2⟩⟩)⟩, ⟨by (try simp only [hl189001_59]); (with_reducible repeat (first | apply Kd.R_alloc | apply Kd.R_drewN | apply Kd.R_drew)); exact Kd.R_mono HO_195001.out (fun _ hk => ⟨hk.1.1.1, ⟨hk.1.1.2, hk.2⟩⟩)⟩, ⟨by (try simp only [hl189001_59]); (with_reducible repeat (first | apply Kd.R_alloc | apply Kd.R_drewN | apply Kd.R_drew)); exact Kd.R_mono HO214.out (fun _ hk => ⟨hk.1.1.1.2, ⟨hk.1.1.2, hk.1.2⟩⟩)⟩, ⟨by (try simp only [hl189001_59]); (with_reducible repeat (first | refine blk_drewN ?_ _ | refine blk_drew ?_ | refine blk_alloc ?_ _)); exact BK172.out⟩, ⟨by (try simp only [hl189001_59]); (with_reducible repeat (first | refine blk_drewN ?_ _ | refine blk_drew ?_ | refine blk_alloc ?_ _)); exact BK183.out⟩, ⟨by (try simp only [hl189001_59]); (with_reducible repeat (first | refine blk_drewN ?_ _ | refine blk_drew ?_ | refine blk_alloc ?_ _)); exact BK188.out⟩, ⟨by (try simp only [hl189001_59]); (with_reducible repeat (first | refine blk_drewN ?_ _ | refine blk_drew ?_ | refine blk_alloc ?_ _)); exact BK194.out⟩, ⟨by (try simp only [hl189001_59]); (with_reducible repeat (first | refine blk_drewN ?_ _ | refine blk_drew ?_ | refine blk_alloc ?_ _)); exact BK216.out⟩, ⟨by repeat (first | (with_reducible first | exact HB.out | apply below_alloc | apply pw_below_drewN | apply below_drew1 | refine below_set ?_ GE172.out | refine below_set ?_ GE183.out | refine below_set ?_ GE188.out | refine below_set ?_ GE194.out | refine below_set ?_ GE216.out) | exact HB.out)⟩⟩
            ·replace c125 := Bool.eq_false_iff.mpr c125
             subst c125
             have H1 : (laws_FnExactReverseProgram.j2 kj59 t204 true t189 t205) = some r := by rw [if_neg (show ¬ (false = true) by decide)] at H; exact H
             clear H
             have H := H1
             clear H1
             have H' := Aside0.mk H
             clear H
             have hnb136 := NB216_172.out
             have hnc136 := NB172_216.out
             have hnb137 := NB216_183.out
             have hnc137 := NB183_216.out
             have hnb138 := NB216_188.out
             have hnc138 := NB188_216.out
             have hnb139 := NB216_194.out
             have hnc139 := NB194_216.out
             have hcz140_0 : w117.cell? ⟨gb216, 0, none⟩ = some (.int .i16 0) := (blk_cell BK216.out 0).trans rfl
             have hcz140_1 : w117.cell? ⟨gb216, 1, none⟩ = some (.slice none 0 0) := (blk_cell BK216.out 1).trans rfl
             have hfz140_0 := blk_frozen BK216.out 0
             have hfz140_1 := blk_frozen BK216.out 1
             have hnb141 := NB183_172.out
             have hnc141 := NB172_183.out
             have hnb142 := NB183_188.out
             have hnc142 := NB188_183.out
             have hnb143 := NB183_194.out
             have hnc143 := NB194_183.out
             have hcz144_0 : w117.cell? ⟨gb183, 0, none⟩ = some (.int .i16 t178) := (blk_cell BK183.out 0).trans rfl
             have hcz144_1 : w117.cell? ⟨gb183, 1, none⟩ = some (.slice Ao22 t179.length co22) := (blk_cell BK183.out 1).trans rfl
             have hfz144_0 := blk_frozen BK183.out 0
             have hfz144_1 := blk_frozen BK183.out 1
             go_wp2_with (first | ((with_reducible refine gate_callee (f := 32) rfl ?_); refine goesL_ (some 81) rfl rfl Try.func32 (by kernel_rfl) rfl #[.agg #[.int .i16 t211, .slice Ao123 t212.length co123], .agg #[.int .i16 t178, .slice Ao22 t179.length co22]] rfl a3_ ?_; (with_reducible refine (laws_eqProgram.calls kj59 t211 _ _ t212 t178 _ _ t179 false _ ?side1 ?side2 ?side3 ?side4 A124.out).mono ?_); (case side1 => exact a54_); (case side2 => exact (Kd.R_reads' HO214.out).2.1); (case side3 => exact a55_); (case side4 => exact (Kd.R_reads' HO_184001.out).2.1); rintro e w145 ⟨rfl, hb⟩; refine ⟨_, rfl, ?_⟩; have n0_ := Aside0.mk (Kd.R_below a12_ hb); have n1_ := Aside0.mk (Kd.R_below a30_ hb); have n2_ := Aside0.mk (Kd.R_below a31_ hb); have n3_ := Aside0.mk (Kd.R_below a32_ hb); have n4_ := Aside0.mk (Kd.R_below a13_ hb); have n5_ := Aside0.mk (blk_below (g := gb172) (o := .cells #[.int .i16 a0_0, .slice A0_1 l0_1.length c0_1] 41 (0, 0)) a25_ hb); have n6_ := Aside0.mk (blk_below (g := gb183) (o := .cells #[.int .i16 t178, .slice Ao22 t179.length co22] 45 (0, 0)) a26_ hb); have n7_ := Aside0.mk (blk_below (g := gb188) (o := .cells #[.int .i16 t184, .slice Ao29 t202.length co29] 45 (0, 0)) a27_ hb); have n8_ := Aside0.mk (blk_below (g := gb194) (o := .cells #[.int .i16 t189, .slice Ao36 t190.length co36] 45 (0, 0)) a28_ hb); have n9_ := Aside0.mk (blk_below (g := gb216) (o := .cells #[.int .i16 t211, .slice Ao123 t212.length co123] 45 (0, 0)) a20_ hb); have n10_ := Aside0.mk (below_step a11_ hb); clear HO_184001; clear HO_189001; clear HO_195001; clear HO210; clear HO214; clear BK172; clear BK183; clear BK188; clear BK194; clear BK216; clear HB; have HO_184001 := n0_; have HO_189001 := n1_; have HO_195001 := n2_; have HO210 := n3_; have HO214 := n4_; have BK172 := n5_; have BK183 := n6_; have BK188 := n7_; have BK194 := n8_; have BK216 := n9_; have HB := n10_; clear n0_ n1_ n2_ n3_ n4_ n5_ n6_ n7_ n8_ n9_ n10_; (try clear hb); (try clear hb2); (try clear hk); (try clear hi)))
             go_meet
             case rel => exact ⟨_, (true), a43_, H', ⟨by have := HJ10.out; have := HJ59.out; first | omega | exact Nat.le_refl _⟩, ⟨by (try simp only [hl189001_59]); (with_reducible repeat (first | apply Kd.R_alloc | apply Kd.R_drewN | apply Kd.R_drew)); exact Kd.R_mono HO_184001.out (fun _ hk => ⟨hk.1.1.1, ⟨hk.1.1.2, hk.2⟩⟩)⟩, ⟨by (try simp only [hl189001_59]); (with_reducible repeat (first | apply Kd.R_alloc | apply Kd.R_drewN | apply Kd.R_drew)); exact Kd.R_mono HO_189001.out (fun _ hk => ⟨hk.1.1.1, ⟨hk.1.1.2, hk.2⟩⟩)⟩, ⟨by (try simp only [hl189001_59]); (with_reducible repeat (first | apply Kd.R_alloc | apply Kd.R_drewN | apply Kd.R_drew)); exact Kd.R_mono HO_195001.out (fun _ hk => ⟨hk.1.1.1, ⟨hk.1.1.2, hk.2⟩⟩)⟩, ⟨by (try simp only [hl189001_59]); (with_reducible repeat (first | apply Kd.R_alloc | apply Kd.R_drewN | apply Kd.R_drew)); exact Kd.R_mono HO214.out (fun _ hk => ⟨hk.1.1.1.2, ⟨hk.1.1.2, hk.1.2⟩⟩)⟩, ⟨by (try simp only [hl189001_59]); (with_reducible repeat (first | refine blk_drewN ?_ _ | refine blk_drew ?_ | refine blk_alloc ?_ _)); exact BK172.out⟩, ⟨by (try simp only [hl189001_59]); (with_reducible repeat (first | refine blk_drewN ?_ _ | refine blk_drew ?_ | refine blk_alloc ?_ _)); exact BK183.out⟩, ⟨by (try simp only [hl189001_59]); (with_reducible repeat (first | refine blk_drewN ?_ _ | refine blk_drew ?_ | refine blk_alloc ?_ _)); exact BK188.out⟩, ⟨by (try simp only [hl189001_59]); (with_reducible repeat (first | refine blk_drewN ?_ _ | refine blk_drew ?_ | refine blk_alloc ?_ _)); exact BK194.out⟩, ⟨by (try simp only [hl189001_59]); (with_reducible repeat (first | refine blk_drewN ?_ _ | refine blk_drew ?_ | refine blk_alloc ?_ _)); exact BK216.out⟩, ⟨by repeat (first | (with_reducible first | exact HB.out | apply below_alloc | apply pw_below_drewN | apply below_drew1 | refine below_set ?_ GE172.out | refine below_set ?_ GE183.out | refine below_set ?_ GE188.out | refine below_set ?_ GE194.out | refine below_set ?_ GE216.out) | exact HB.out)⟩⟩
           case rest =>
            clear HC103
            try clear c1
            try clear c2
            try clear p2
            try clear c3
            try clear c3b0
            try clear c4
            try clear c5
            try clear c6
            try clear c7
            try clear c8
            try clear c9
            try clear c10
            try clear c11
            try clear c12
            try clear c13
            try clear c14
            try clear c20
            try clear c26
            try clear c27
            try clear c28
            try clear c29
            try clear c30
            try clear c31
            try clear c32
            try clear c33
            try clear c34
            try clear c38
            try clear c39
            try clear c40
            try clear c41
            try clear c43
            try clear c44
            try clear c47
            try clear c48
            try clear c49
            try clear c51
            try clear c52
            try clear c55
            try clear c58
            try clear c65
            try clear c66
            try clear c67
            try clear c70
            try clear c70b0
            try clear c72
            try clear c73
            try clear c74
            try clear c75
            try clear c77
            try clear c78
            try clear c81
            try clear c82
            try clear c83
            try clear c85
            try clear c86
            try clear c89
            try clear c92
            try clear c92b0
            try clear c93
            try clear c94
            try clear c95
            try clear c100
            try clear c100b0
            try clear c100b1
            try clear c104
            try clear c105
            try clear c106
            try clear c111
            try clear c112
            try clear c118
            try clear c119
            try clear c120
            try clear c121
            try clear c125
            try clear c126
            try clear c127
            try clear c128
            try clear c129
            try clear c131
            try clear c132
            try clear c133
            try clear c136
            try clear c137
            try clear c138
            try clear c139
            try clear c141
            try clear c142
            try clear c143
            try clear hcz107_0
            try clear hcz107_1
            try clear hcz109_0
            try clear hcz109_1
            try clear hcz113_0
            try clear hcz113_1
            try clear hcz122_0
            try clear hcz122_1
            try clear hcz130_0
            try clear hcz130_1
            try clear hcz134_0
            try clear hcz134_1
            try clear hcz13_0
            try clear hcz13_1
            try clear hcz140_0
            try clear hcz140_1
            try clear hcz144_0
            try clear hcz144_1
            try clear hcz15_0
            try clear hcz15_1
            try clear hcz21_0
            try clear hcz21_1
            try clear hcz23_0
            try clear hcz23_1
            try clear hcz28_0
            try clear hcz28_1
            try clear hcz35_0
            try clear hcz35_1
            try clear hcz42_0
            try clear hcz42_1
            try clear hcz45_0
            try clear hcz45_1
            try clear hcz50_0
            try clear hcz50_1
            try clear hcz53_0
            try clear hcz53_1
            try clear hcz5_0
            try clear hcz5_1
            try clear hcz68_0
            try clear hcz68_1
            try clear hcz76_0
            try clear hcz76_1
            try clear hcz79_0
            try clear hcz79_1
            try clear hcz84_0
            try clear hcz84_1
            try clear hcz87_0
            try clear hcz87_1
            try clear hcz96_0
            try clear hcz96_1
            try clear hcz98_0
            try clear hcz98_1
            try clear hfz107_0
            try clear hfz107_1
            try clear hfz109_0
            try clear hfz109_1
            try clear hfz113_0
            try clear hfz113_1
            try clear hfz122_0
            try clear hfz122_1
            try clear hfz130_0
            try clear hfz130_1
            try clear hfz134_0
            try clear hfz134_1
            try clear hfz13_0
            try clear hfz13_1
            try clear hfz140_0
            try clear hfz140_1
            try clear hfz144_0
            try clear hfz144_1
            try clear hfz15_0
            try clear hfz15_1
            try clear hfz21_0
            try clear hfz21_1
            try clear hfz23_0
            try clear hfz23_1
            try clear hfz28_0
            try clear hfz28_1
            try clear hfz35_0
            try clear hfz35_1
            try clear hfz42_0
            try clear hfz42_1
            try clear hfz45_0
            try clear hfz45_1
            try clear hfz50_0
            try clear hfz50_1
            try clear hfz53_0
            try clear hfz53_1
            try clear hfz5_0
            try clear hfz5_1
            try clear hfz68_0
            try clear hfz68_1
            try clear hfz76_0
            try clear hfz76_1
            try clear hfz79_0
            try clear hfz79_1
            try clear hfz84_0
            try clear hfz84_1
            try clear hfz87_0
            try clear hfz87_1
            try clear hfz96_0
            try clear hfz96_1
            try clear hfz98_0
            try clear hfz98_1
            try clear p2
            obtain ⟨kq, x87_102, rfl, HA, HJ102, HO_184001, HO_189001, HO_195001, HO_217001, BK172, BK183, BK188, BK194, BK216, HB⟩ := hcut
            have hl195001_102 := (Kd.R_reads' HO_195001.out).1
            rw [hl195001_102] at HO_195001
            (try simp only [hl195001_102])
            (try simp only [hl195001_102] at BK172)
            (try simp only [hl195001_102] at BK183)
            (try simp only [hl195001_102] at BK188)
            (try simp only [hl195001_102] at BK194)
            (try simp only [hl195001_102] at BK216)
            (try simp only [hl195001_102] at HO_184001)
            (try simp only [hl195001_102] at HO_189001)
            (try simp only [hl195001_102] at HO_217001)
            cases kq with
            | zero => exact absurd HA.out (by simp [laws_FnExactReverseProgram.j2])
            | succ kj102 =>
             have H := HA.out
             clear HA
             simp only [laws_FnExactReverseProgram.j2] at H
             by_cases c146 : x87_102 = true
             ·subst c146
              have H1 : (some false) = some r := by rw [if_pos rfl] at H; exact H
              clear H
              have H := H1
              clear H1
              obtain rfl := Option.some.inj H
              go_wp2
              go_ret
              exact ⟨by first | rfl | (simp [errW_none, errW_some] <;> rfl) | (simp [*, errW_none, errW_some] <;> rfl), by repeat (first | (with_reducible first | exact HB.out | apply below_alloc | apply pw_below_drewN | apply below_drew1 | refine below_set ?_ GE172.out | refine below_set ?_ GE183.out | refine below_set ?_ GE188.out | refine below_set ?_ GE194.out | refine below_set ?_ GE216.out) | exact HB.out)⟩
             ·replace c146 := Bool.eq_false_iff.mpr c146
              subst c146
              have H1 : ((laws_heldProgram.f kj102 t189 t205 1).bind fun t218 => (if t218 < 0 then (some false) else (if t218 = t204 then (some true) else (some false)))) = some r := by rw [if_neg (show ¬ (false = true) by decide)] at H; exact H
              clear H
              have H := H1
              clear H1
              replace H := Option.bind_eq_some_iff.mp H
              obtain ⟨t218, A1470, H⟩ := H
              replace H : (if t218 < 0 then (some false) else (if t218 = t204 then (some true) else (some false))) = some r := H
              have A147 := Aside0.mk A1470
              clear A1470
              by_cases c148 : t218 < 0
              ·rw [if_pos c148] at H
               have c148b0 : decide (t218 < 0) = true := decide_eq_true c148
               clear c148
               obtain rfl := Option.some.inj H
               have hnb149 := NB194_172.out
               have hnc149 := NB172_194.out
               have hnb150 := NB194_183.out
               have hnc150 := NB183_194.out
               have hnb151 := NB194_188.out
               have hnc151 := NB188_194.out
               have hnb152 := NB194_216.out
               have hnc152 := NB216_194.out
               have hcz153_0 : wc.cell? ⟨gb194, 0, none⟩ = some (.int .i16 t189) := (blk_cell BK194.out 0).trans rfl
               have hcz153_1 : wc.cell? ⟨gb194, 1, none⟩ = some (.slice Ao36 t205.length co36) := (blk_cell BK194.out 1).trans rfl
               have hfz153_0 := blk_frozen BK194.out 0
               have hfz153_1 := blk_frozen BK194.out 1
               go_wp2_with (first | ((with_reducible refine gate_callee (f := 34) rfl ?_); refine goesL_ (some 90) rfl rfl Try.func34 (by kernel_rfl) rfl #[.agg #[.int .i16 t189, .slice Ao36 t205.length co36], .int .i64 1] rfl a3_ ?_; (with_reducible refine (laws_heldProgram.calls kj102 t189 _ _ t205 1 t218 _ ?side1 ?side2 A147.out).mono ?_); (case side1 => exact a51_); (case side2 => exact (Kd.R_reads' HO_195001.out).2.1); rintro e w154 ⟨rfl, hb⟩; refine ⟨_, rfl, ?_⟩; have n0_ := Aside0.mk (Kd.R_below a7_ hb); have n1_ := Aside0.mk (Kd.R_below a8_ hb); have n2_ := Aside0.mk (Kd.R_below a9_ hb); have n3_ := Aside0.mk (Kd.R_below a42_ hb); have n4_ := Aside0.mk (blk_below (g := gb172) a2_ hb); have n5_ := Aside0.mk (blk_below (g := gb183) a4_ hb); have n6_ := Aside0.mk (blk_below (g := gb188) a5_ hb); have n7_ := Aside0.mk (blk_below (g := gb194) a6_ hb); have n8_ := Aside0.mk (blk_below (g := gb216) a41_ hb); have n9_ := Aside0.mk (below_step a11_ hb); clear HO_184001; clear HO_189001; clear HO_195001; clear HO_217001; clear BK172; clear BK183; clear BK188; clear BK194; clear BK216; clear HB; have HO_184001 := n0_; have HO_189001 := n1_; have HO_195001 := n2_; have HO_217001 := n3_; have BK172 := n4_; have BK183 := n5_; have BK188 := n6_; have BK194 := n7_; have BK216 := n8_; have HB := n9_; clear n0_ n1_ n2_ n3_ n4_ n5_ n6_ n7_ n8_ n9_; (try clear hb); (try clear hb2); (try clear hk); (try clear hi)))
               go_ret
               exact ⟨by first | rfl | (simp [errW_none, errW_some] <;> rfl) | (simp [*, errW_none, errW_some] <;> rfl), by repeat (first | (with_reducible first | exact HB.out | apply below_alloc | apply pw_below_drewN | apply below_drew1 | refine below_set ?_ GE172.out | refine below_set ?_ GE183.out | refine below_set ?_ GE188.out | refine below_set ?_ GE194.out | refine below_set ?_ GE216.out) | exact HB.out)⟩
              ·rw [if_neg c148] at H
               have c148b0 : decide (t218 < 0) = false := decide_eq_false c148
               clear c148
               by_cases c155 : t218 = t204
               ·rw [if_pos c155] at H
                have c155b0 : (t218 == t204) = true := beq_iff_eq.mpr c155
                have c155b1 : (t218 != t204) = false := bne_eq_false_iff_eq.mpr c155
                clear c155
                obtain rfl := Option.some.inj H
                have hnb156 := NB194_172.out
                have hnc156 := NB172_194.out
                have hnb157 := NB194_183.out
                have hnc157 := NB183_194.out
                have hnb158 := NB194_188.out
                have hnc158 := NB188_194.out
                have hnb159 := NB194_216.out
                have hnc159 := NB216_194.out
                have hcz160_0 : wc.cell? ⟨gb194, 0, none⟩ = some (.int .i16 t189) := (blk_cell BK194.out 0).trans rfl
                have hcz160_1 : wc.cell? ⟨gb194, 1, none⟩ = some (.slice Ao36 t205.length co36) := (blk_cell BK194.out 1).trans rfl
                have hfz160_0 := blk_frozen BK194.out 0
                have hfz160_1 := blk_frozen BK194.out 1
                go_wp2_with (first | ((with_reducible refine gate_callee (f := 34) rfl ?_); refine goesL_ (some 90) rfl rfl Try.func34 (by kernel_rfl) rfl #[.agg #[.int .i16 t189, .slice Ao36 t205.length co36], .int .i64 1] rfl a3_ ?_; (with_reducible refine (laws_heldProgram.calls kj102 t189 _ _ t205 1 t218 _ ?side1 ?side2 A147.out).mono ?_); (case side1 => exact a51_); (case side2 => exact (Kd.R_reads' HO_195001.out).2.1); rintro e w161 ⟨rfl, hb⟩; refine ⟨_, rfl, ?_⟩; have n0_ := Aside0.mk (Kd.R_below a7_ hb); have n1_ := Aside0.mk (Kd.R_below a8_ hb); have n2_ := Aside0.mk (Kd.R_below a9_ hb); have n3_ := Aside0.mk (Kd.R_below a42_ hb); have n4_ := Aside0.mk (blk_below (g := gb172) a2_ hb); have n5_ := Aside0.mk (blk_below (g := gb183) a4_ hb); have n6_ := Aside0.mk (blk_below (g := gb188) a5_ hb); have n7_ := Aside0.mk (blk_below (g := gb194) a6_ hb); have n8_ := Aside0.mk (blk_below (g := gb216) a41_ hb); have n9_ := Aside0.mk (below_step a11_ hb); clear HO_184001; clear HO_189001; clear HO_195001; clear HO_217001; clear BK172; clear BK183; clear BK188; clear BK194; clear BK216; clear HB; have HO_184001 := n0_; have HO_189001 := n1_; have HO_195001 := n2_; have HO_217001 := n3_; have BK172 := n4_; have BK183 := n5_; have BK188 := n6_; have BK194 := n7_; have BK216 := n8_; have HB := n9_; clear n0_ n1_ n2_ n3_ n4_ n5_ n6_ n7_ n8_ n9_; (try clear hb); (try clear hb2); (try clear hk); (try clear hi)))
                go_ret
                exact ⟨by first | rfl | (simp [errW_none, errW_some] <;> rfl) | (simp [*, errW_none, errW_some] <;> rfl), by repeat (first | (with_reducible first | exact HB.out | apply below_alloc | apply pw_below_drewN | apply below_drew1 | refine below_set ?_ GE172.out | refine below_set ?_ GE183.out | refine below_set ?_ GE188.out | refine below_set ?_ GE194.out | refine below_set ?_ GE216.out) | exact HB.out)⟩
               ·rw [if_neg c155] at H
                have c155b0 : (t218 == t204) = false := beq_eq_false_iff_ne.mpr c155
                have c155b1 : (t218 != t204) = true := bne_iff_ne.mpr c155
                obtain rfl := Option.some.inj H
                have hnb162 := NB194_172.out
                have hnc162 := NB172_194.out
                have hnb163 := NB194_183.out
                have hnc163 := NB183_194.out
                have hnb164 := NB194_188.out
                have hnc164 := NB188_194.out
                have hnb165 := NB194_216.out
                have hnc165 := NB216_194.out
                have hcz166_0 : wc.cell? ⟨gb194, 0, none⟩ = some (.int .i16 t189) := (blk_cell BK194.out 0).trans rfl
                have hcz166_1 : wc.cell? ⟨gb194, 1, none⟩ = some (.slice Ao36 t205.length co36) := (blk_cell BK194.out 1).trans rfl
                have hfz166_0 := blk_frozen BK194.out 0
                have hfz166_1 := blk_frozen BK194.out 1
                go_wp2_with (first | ((with_reducible refine gate_callee (f := 34) rfl ?_); refine goesL_ (some 90) rfl rfl Try.func34 (by kernel_rfl) rfl #[.agg #[.int .i16 t189, .slice Ao36 t205.length co36], .int .i64 1] rfl a3_ ?_; (with_reducible refine (laws_heldProgram.calls kj102 t189 _ _ t205 1 t218 _ ?side1 ?side2 A147.out).mono ?_); (case side1 => exact a51_); (case side2 => exact (Kd.R_reads' HO_195001.out).2.1); rintro e w167 ⟨rfl, hb⟩; refine ⟨_, rfl, ?_⟩; have n0_ := Aside0.mk (Kd.R_below a7_ hb); have n1_ := Aside0.mk (Kd.R_below a8_ hb); have n2_ := Aside0.mk (Kd.R_below a9_ hb); have n3_ := Aside0.mk (Kd.R_below a42_ hb); have n4_ := Aside0.mk (blk_below (g := gb172) a2_ hb); have n5_ := Aside0.mk (blk_below (g := gb183) a4_ hb); have n6_ := Aside0.mk (blk_below (g := gb188) a5_ hb); have n7_ := Aside0.mk (blk_below (g := gb194) a6_ hb); have n8_ := Aside0.mk (blk_below (g := gb216) a41_ hb); have n9_ := Aside0.mk (below_step a11_ hb); clear HO_184001; clear HO_189001; clear HO_195001; clear HO_217001; clear BK172; clear BK183; clear BK188; clear BK194; clear BK216; clear HB; have HO_184001 := n0_; have HO_189001 := n1_; have HO_195001 := n2_; have HO_217001 := n3_; have BK172 := n4_; have BK183 := n5_; have BK188 := n6_; have BK194 := n7_; have BK216 := n8_; have HB := n9_; clear n0_ n1_ n2_ n3_ n4_ n5_ n6_ n7_ n8_ n9_; (try clear hb); (try clear hb2); (try clear hk); (try clear hi)))
                go_ret
                exact ⟨by first | rfl | (simp [errW_none, errW_some] <;> rfl) | (simp [*, errW_none, errW_some] <;> rfl), by repeat (first | (with_reducible first | exact HB.out | apply below_alloc | apply pw_below_drewN | apply below_drew1 | refine below_set ?_ GE172.out | refine below_set ?_ GE183.out | refine below_set ?_ GE188.out | refine below_set ?_ GE194.out | refine below_set ?_ GE216.out) | exact HB.out)⟩
          ·rw [if_neg c100] at H
           have c100b0 : (t206 == t204) = false := beq_eq_false_iff_ne.mpr c100
           have c100b1 : (t206 != t204) = true := bne_iff_ne.mpr c100
           obtain rfl := Option.some.inj H
           have hnb168 := NB194_172.out
           have hnc168 := NB172_194.out
           have hnb169 := NB194_183.out
           have hnc169 := NB183_194.out
           have hnb170 := NB194_188.out
           have hnc170 := NB188_194.out
           have hcz171_0 : wc.cell? ⟨gb194, 0, none⟩ = some (.int .i16 t189) := (blk_cell BK194.out 0).trans rfl
           have hcz171_1 : wc.cell? ⟨gb194, 1, none⟩ = some (.slice Ao36 t190.length co36) := (blk_cell BK194.out 1).trans rfl
           have hfz171_0 := blk_frozen BK194.out 0
           have hfz171_1 := blk_frozen BK194.out 1
           go_wp2_with (first | ((with_reducible refine gate_callee (f := 33) rfl ?_); refine goesL_ (some 64) rfl rfl Try.func33 (by kernel_rfl) rfl #[.agg #[.int .i16 t189, .slice Ao36 t190.length co36], .int .i64 1] rfl a3_ ?_; (with_reducible refine (laws_markProgram.calls kj59 t189 (fun k_ => some k_ = (.slice Ao36 t190.length co36 : Value).ownBlock) (.slice Ao36 t190.length co36) t190 1 t204 t205 w _ ?side1 ?side2 A90.out).mono ?_); (case side1 => exact a53_); (case side2 => exact Kd.R_tight rfl HO_195001.out); rintro e w172 ⟨rfl, hy0, hb, hkp⟩; refine ⟨_, rfl, ?_⟩; have n0_ := Aside0.mk (Kd.R_mono (ok' := fun k_ => nbk k_ Ao29 t202.length co29 ∧ nbk k_ Ao36 t190.length co36) (Kd.R_keptB (HO_184001.out) hkp (fun k_ hk_ hs_ => (hk_.2) hs_)) (fun k_ hk_ => ⟨hk_.1.1, hk_.1.2⟩)); have n1_ := Aside0.mk (Kd.R_mono (ok' := fun k_ => nbk k_ Ao22 t179.length co22 ∧ nbk k_ Ao36 t190.length co36) (Kd.R_keptB (HO_189001.out) hkp (fun k_ hk_ hs_ => (hk_.2) hs_)) (fun k_ hk_ => ⟨hk_.1.1, hk_.1.2⟩)); have n2_ := Aside0.mk (Kd.R_reok rfl hy0 (fun k_ e_ => HO_195001.out.1 k_ e_)); have n3_ := Aside0.mk (blk_kept a2_ hkp (fun hs_ => (fun e_ => (Kd.R_ne HO_195001.out BK172.out (by decide)) e_) hs_)); have n4_ := Aside0.mk (blk_kept a4_ hkp (fun hs_ => (fun e_ => (Kd.R_ne HO_195001.out BK183.out (by decide)) e_) hs_)); have n5_ := Aside0.mk (blk_kept a5_ hkp (fun hs_ => (fun e_ => (Kd.R_ne HO_195001.out BK188.out (by decide)) e_) hs_)); have n6_ := Aside0.mk (blk_kept a6_ hkp (fun hs_ => (fun e_ => (Kd.R_ne HO_195001.out BK194.out (by decide)) e_) hs_)); have n7_ := Aside0.mk (hb); clear HO_184001; clear HO_189001; clear HO_195001; clear BK172; clear BK183; clear BK188; clear BK194; clear HB; have HO_184001 := n0_; have HO_189001 := n1_; have HO_195001 := n2_; have BK172 := n3_; have BK183 := n4_; have BK188 := n5_; have BK194 := n6_; have HB := n7_; clear n0_ n1_ n2_ n3_ n4_ n5_ n6_ n7_; (try clear hb); (try clear hkp); (try clear hy0); have hcz173_0 : w172.cell? ⟨gb194, 0, none⟩ = some (.int .i16 t189) := (blk_cell BK194.out 0).trans rfl; have hcz173_1 : w172.cell? ⟨gb194, 1, none⟩ = some (.slice Ao36 t190.length co36) := (blk_cell BK194.out 1).trans rfl; have hfz173_0 := blk_frozen BK194.out 0; have hfz173_1 := blk_frozen BK194.out 1) | ((with_reducible refine gate_callee (f := 34) rfl ?_); refine goesL_ (some 67) rfl rfl Try.func34 (by kernel_rfl) rfl #[.agg #[.int .i16 t189, .slice Ao36 t205.length co36], .int .i64 1] rfl a29_ ?_; (with_reducible refine (laws_heldProgram.calls kj59 t189 _ _ t205 1 t206 _ ?side1 ?side2 A91.out).mono ?_); (case side1 => exact a51_); (case side2 => exact a61_); rintro e w174 ⟨rfl, hb⟩; refine ⟨_, rfl, ?_⟩; have n0_ := Aside0.mk (Kd.R_below a7_ hb); have n1_ := Aside0.mk (Kd.R_below a8_ hb); have n2_ := Aside0.mk (Kd.R_below a9_ hb); have n3_ := Aside0.mk (blk_below (g := gb172) a2_ hb); have n4_ := Aside0.mk (blk_below (g := gb183) a4_ hb); have n5_ := Aside0.mk (blk_below (g := gb188) a5_ hb); have n6_ := Aside0.mk (blk_below (g := gb194) a6_ hb); have n7_ := Aside0.mk (below_step a1_ hb); clear HO_184001; clear HO_189001; clear HO_195001; clear BK172; clear BK183; clear BK188; clear BK194; clear HB; have HO_184001 := n0_; have HO_189001 := n1_; have HO_195001 := n2_; have BK172 := n3_; have BK183 := n4_; have BK188 := n5_; have BK194 := n6_; have HB := n7_; clear n0_ n1_ n2_ n3_ n4_ n5_ n6_ n7_; (try clear hb); (try clear hb2); (try clear hk); (try clear hi)))
           go_ret
           exact ⟨by first | rfl | (simp [errW_none, errW_some] <;> rfl) | (simp [*, errW_none, errW_some] <;> rfl), by repeat (first | (with_reducible first | exact HB.out | apply below_alloc | apply pw_below_drewN | apply below_drew1 | refine below_set ?_ GE172.out | refine below_set ?_ GE183.out | refine below_set ?_ GE188.out | refine below_set ?_ GE194.out) | exact HB.out)⟩
     ·replace c58 := Bool.eq_false_iff.mpr c58
      subst c58
      have H1 : (some false) = some r := by rw [if_neg (show ¬ (false = true) by decide)] at H; exact H
      clear H
      have H := H1
      clear H1
      obtain rfl := Option.some.inj H
      try go_wp2
      have n0_ := Aside0.mk (Kd.R_drew HO_184001.out)
      have n1_ := Aside0.mk (Kd.R_drew HO_189001.out)
      have n2_ := Aside0.mk (Kd.R_drew HO_195001.out)
      have n3_ := Aside0.mk (blk_drew BK172.out)
      have n4_ := Aside0.mk (blk_drew BK183.out)
      have n5_ := Aside0.mk (blk_drew BK188.out)
      have n6_ := Aside0.mk (blk_drew BK194.out)
      have n7_ := Aside0.mk (below_drew1 HB.out)
      clear HO_184001 HO_189001 HO_195001 BK172 BK183 BK188 BK194 HB; have HO_184001 := n0_; have HO_189001 := n1_; have HO_195001 := n2_; have BK172 := n3_; have BK183 := n4_; have BK188 := n5_; have BK194 := n6_; have HB := n7_; clear n0_ n1_ n2_ n3_ n4_ n5_ n6_ n7_
      refine start_ (n := 5) (S := fun w' => w'.cell? ⟨gb188, 0, none⟩ = some (.int .i16 t184) ∧ w'.cell? ⟨gb188, 1, none⟩ = some (.slice Ao29 t185.length co29) ∧ w'.cell? ⟨gb172, 0, none⟩ = some (.int .i16 a0_0) ∧ w'.cell? ⟨gb172, 1, none⟩ = some (.slice A0_1 l0_1.length c0_1)) (ds := []) #[false, false, false, false, false] (by kernel_rfl) rfl rfl ⟨(blk_cell BK188.out 0).trans rfl, (blk_cell BK188.out 1).trans rfl, (blk_cell BK172.out 0).trans rfl, (blk_cell BK172.out 1).trans rfl⟩ (fun hHeld => ?_)
      generalize wc.drew = w175 at HO_184001 HO_189001 HO_195001 BK172 BK183 BK188 BK194 HB hHeld ⊢
      refine take_ (i := 0) (N := some 41) (v := ?_) (a' := ?_) #[true, false, false, false, false] rfl rfl (by kernel_rfl) (fun _ _ _ h => h) (Or.inl ⟨by rfl, ?_⟩) hHeld ?_ ?_
      rotate_left
      ·rintro w' ⟨s0, s1, s2, s3⟩
       go_simp; with_reducible rfl
      rotate_left
      ·simp only [Act.put, List.setIfInBounds_toArray, List.set_cons_zero, List.set_cons_succ, i64_w, i32_w]
       rfl
      refine take_ (i := 1) (N := some 42) (v := ?_) (a' := ?_) #[true, true, false, false, false] rfl rfl (by kernel_rfl) (fun _ _ _ h => h) (Or.inl ⟨by rfl, ?_⟩) hHeld ?_ ?_
      rotate_left
      ·rintro w' ⟨s0, s1, s2, s3⟩
       go_simp; with_reducible rfl
      rotate_left
      ·simp only [Act.put, List.setIfInBounds_toArray, List.set_cons_zero, List.set_cons_succ, i64_w, i32_w]
       rfl
      refine one_ (i := 2) (N := some 43) #[true, true, true, false, false] rfl rfl (by kernel_rfl) (by decide) (fun K hK => ?_)
      refine goes_ Try.func30 (by kernel_rfl) rfl #[.agg #[.int .i16 a0_0, .slice A0_1 l0_1.length c0_1]] (by rfl) rfl rfl a3_ ?_
      with_reducible refine (laws_toProgram.calls kj10 a0_0 _ _ l0_1 t196 t197 _ ?side1 ?side2 A56.out).mono ?_
      (case side1 => exact a52_); (case side2 => exact HC0_1.out)
      rintro e w176 ⟨v198, rfl, ho0, hb⟩
      refine ⟨_, rfl, ?_⟩
      have n0_ := Aside0.mk (Kd.R_elder' a7_ (Kd.R_base ho0) hb)
      have n1_ := Aside0.mk (Kd.R_elder' a8_ (Kd.R_base ho0) hb)
      have n2_ := Aside0.mk (Kd.R_elder' a9_ (Kd.R_base ho0) hb)
      have n3_ := Aside0.mk (Kd.R_lower (Kd.R_new' (Kd.R_new' (Kd.R_new' ho0 (Kd.R_lt a7_)) (Kd.R_lt a8_)) (Kd.R_lt a9_)) (below_size a1_))
      have n4_ := Aside0.mk (blk_below (g := gb172) a2_ hb)
      have n5_ := Aside0.mk (blk_below (g := gb183) a4_ hb)
      have n6_ := Aside0.mk (blk_below (g := gb188) a5_ hb)
      have n7_ := Aside0.mk (blk_below (g := gb194) a6_ hb)
      have n8_ := Aside0.mk (below_step a1_ hb)
      clear HO_184001 HO_189001 HO_195001 BK172 BK183 BK188 BK194 HB; have HO_184001 := n0_; have HO_189001 := n1_; have HO_195001 := n2_; have HO199 := n3_; have BK172 := n4_; have BK183 := n5_; have BK188 := n6_; have BK194 := n7_; have HB := n8_; clear n0_ n1_ n2_ n3_ n4_ n5_ n6_ n7_ n8_; (try clear hb); (try clear hb2); (try clear hk); (try clear hi); (try clear ho0)
      obtain ⟨Ao177, co177, eo177⟩ := Kd.R_slice HO199.out
      (first | subst eo177 | (injection eo177 with f1_ f2_ f3_; have f4_ := f1_.symm; have f5_ := f3_.symm; clear f1_ f2_ f3_; subst f4_; subst f5_))
      refine hK.out _ _ ⟨(blk_cell BK188.out 0).trans rfl, (blk_cell BK188.out 1).trans rfl, (blk_cell BK172.out 0).trans rfl, (blk_cell BK172.out 1).trans rfl⟩ (fun hHeld => ?_)
      clear hK K; refine norm_ (a' := ?_) ?_ ?_; rotate_left
      ·show Act.put _ (some 43) _ = _
       simp only [Act.put, List.setIfInBounds_toArray, List.set_cons_zero, List.set_cons_succ, i64_w, i32_w]
       rfl
      refine one_ (i := 3) (N := some 44) #[true, true, true, true, false] rfl rfl (by kernel_rfl) (by decide) (fun K hK => ?_)
      refine goes_ Try.func32 (by kernel_rfl) rfl #[.agg #[.int .i16 t184, .slice Ao29 t185.length co29], .agg #[.int .i16 t196, .slice Ao177 t197.length co177]] (by rfl) rfl rfl a3_ ?_
      with_reducible refine (laws_eqProgram.calls kj10 t184 _ _ t185 t196 _ _ t197 false _ ?side1 ?side2 ?side3 ?side4 A57.out).mono ?_
      (case side1 => exact a58_)
      (case side2 => exact (Kd.R_reads' HO_189001.out).2.1)
      (case side3 => exact a60_)
      (case side4 => exact (Kd.R_reads' HO199.out).2.1)
      rintro e w178 ⟨rfl, hb⟩
      refine ⟨_, rfl, ?_⟩
      have n0_ := Aside0.mk (Kd.R_below a7_ hb)
      have n1_ := Aside0.mk (Kd.R_below a8_ hb)
      have n2_ := Aside0.mk (Kd.R_below a9_ hb)
      have n3_ := Aside0.mk (Kd.R_below a40_ hb)
      have n4_ := Aside0.mk (blk_below (g := gb172) a2_ hb)
      have n5_ := Aside0.mk (blk_below (g := gb183) a4_ hb)
      have n6_ := Aside0.mk (blk_below (g := gb188) a5_ hb)
      have n7_ := Aside0.mk (blk_below (g := gb194) a6_ hb)
      have n8_ := Aside0.mk (below_step a1_ hb)
      clear HO_184001 HO_189001 HO_195001 HO199 BK172 BK183 BK188 BK194 HB; have HO_184001 := n0_; have HO_189001 := n1_; have HO_195001 := n2_; have HO199 := n3_; have BK172 := n4_; have BK183 := n5_; have BK188 := n6_; have BK194 := n7_; have HB := n8_; clear n0_ n1_ n2_ n3_ n4_ n5_ n6_ n7_ n8_; (try clear hb); (try clear hb2); (try clear hk); (try clear hi)
      refine hK.out _ _ ⟨(blk_cell BK188.out 0).trans rfl, (blk_cell BK188.out 1).trans rfl, (blk_cell BK172.out 0).trans rfl, (blk_cell BK172.out 1).trans rfl⟩ (fun hHeld => ?_)
      clear hK K; refine norm_ (a' := ?_) ?_ ?_; rotate_left
      ·show Act.put _ (some 44) _ = _
       simp only [Act.put, List.setIfInBounds_toArray, List.set_cons_zero, List.set_cons_succ, i64_w, i32_w]
       rfl
      refine pure_ (i := 4) (N := some 45) (v := ?_) (a' := ?_) #[true, true, true, true, true] rfl rfl (by kernel_rfl) (fun _ _ _ h => h) (Or.inl ⟨by rfl, ?_⟩) ?_ ?_
      rotate_left
      ·intro w'
       go_simp; with_reducible rfl
      rotate_left
      ·simp only [Act.put, List.setIfInBounds_toArray, List.set_cons_zero, List.set_cons_succ, i64_w, i32_w]
       rfl
      refine done_ (by kernel_rfl) ?_
      try go_wp2
      go_ret
      exact ⟨by first | rfl | (simp [errW_none, errW_some] <;> rfl) | (simp [*, errW_none, errW_some] <;> rfl), by repeat (first | (with_reducible first | exact HB.out | apply below_alloc | apply pw_below_drewN | apply below_drew1 | refine below_set ?_ GE172.out | refine below_set ?_ GE183.out | refine below_set ?_ GE188.out | refine below_set ?_ GE194.out) | exact HB.out)⟩

end Go.Proofs.Ytnjcmalmnofbmaa.XFnExactReverseProgram
