/- Printed by this repository's own program (wip/tools/xprint.py) for the law FnExactReachOf: Lean functions that say what the Go functions compute, and the proofs that the machine comes to just that; no condition beyond those in each statement. -/
import Derived.Deep.WholeRow
import Derived.Laws.CopyOwn
import Derived.Test.YtkgeppbjfkhjcaaXFnExactReachOfx0
import Derived.Test.YtkgeppbjfkhjcaaXFnExactReachOfx4
namespace Go.Proofs.Ytkgeppbjfkhjcaa.XFnExactReachOf
open Go.RowKit Go.Proofs.YtkgeppbjfkhjcaaW.PrintWords Go.Proofs.YtkgeppbjfkhjcaaW.PrintLast Go.Proofs.YtkgeppbjfkhjcaaW.PrintMore
attribute [local go_sem] max2_int min2_int max_two min_two max_three min_three max_four min_four   -- for this text's walks alone
set_option linter.unusedVariables false
set_option linter.unusedSimpArgs false

/-! ### impl_onePair -/
def impl_onePair.f (a0 : Int) (a1 : Int) : Option (List Int) := if 0 ≤ a1 then (if 0 ≤ a0 then (if a0 < 64 then some (pl0_.set a0.toNat (IntKind.u64.wrap (2 ^ min a1.toNat 64))) else none) else none) else none
set_option maxHeartbeats 8000000 in
set_option maxRecDepth 100000 in
theorem impl_onePair.calls (a0 : Int) (a1 : Int) (r : List Int) (w : World) (h : impl_onePair.f a0 a1 = some r) :
    Calls Try.prog 38 #[.int .i64 a0, .int .i64 a1] w fun e w' => e = .returned (.agg (plA r)) ∧ Below w.heap.size w w' := by
  have hu69 := Try.underlying69
  have HB := Aside0.mk (Below.refl w.heap.size w)
  unfold impl_onePair.f at h
  by_cases c1 : ¬ (0 ≤ a1)
  · rw [if_neg c1] at h; cases h
  replace c1 := Decidable.not_not.mp c1
  rw [if_pos c1] at h
  by_cases c2 : ¬ (0 ≤ a0)
  · rw [if_neg c2] at h; cases h
  replace c2 := Decidable.not_not.mp c2
  rw [if_pos c2] at h
  by_cases c3 : ¬ (a0 < 64)
  · rw [if_neg c3] at h; cases h
  replace c3 := Decidable.not_not.mp c3
  rw [if_pos c3] at h
  have hr := Aside0.mk (Option.some.inj h)
  clear h
  have C2 := Aside0.mk c2
  have C3 := Aside0.mk c3
  have e1 : (0 ≤ a1) = True := eq_true c1
  have e2 : (0 ≤ a0) = True := eq_true c2
  have e3 : (a0 < 64) = True := eq_true c3
  clear c1 c2 c3
  go_enter Try.func38, Try.ntmps38
  go_wp2_with (first | ((with_reducible refine gate_dst (N := 4) rfl ?_); refine box_event ?hg (N := 4) ?hd (cs := plA pl0_) (t := 69) ?hr ?_; (case hd => rfl); (case hg => rfl); (case hr => first | (go_simp; done) | (go_simp; rfl)); intro gb1 hg w3 hbox hb; have n0_ := Aside0.mk (below_step HB.out hb); have BK1 := Aside0.mk hbox; have GE1 := Aside0.mk (show w.heap.size ≤ gb1 from by rw [hg]; exact below_size HB.out); clear HB; have HB := n0_; clear n0_ hb hbox hg) | ((with_reducible refine gate_dst (N := 5) rfl ?_); refine box_event ?hg (N := 5) ?hd (cs := plA pl0_) (t := 69) ?hr ?_; (case hd => rfl); (case hg => rfl); (case hr => first | (go_simp; done) | (go_simp; rfl)); intro gb2 hg w4 hbox hb; have n0_ := Aside0.mk (below_step HB.out hb); have n1_ := Aside0.mk (blk_below BK1.out hb); have BK2 := Aside0.mk hbox; have GE2 := Aside0.mk (show w.heap.size ≤ gb2 from by rw [hg]; exact below_size HB.out); have NE := Aside0.mk (show gb1 ≠ gb2 from by rw [hg]; exact Nat.ne_of_lt (blk_lt BK1.out)); clear HB BK1; have HB := n0_; have BK1 := n1_; clear n0_ n1_ hb hbox hg) | ((with_reducible refine gate_store (t := 69) (p := 5) rfl ?_); refine pl_store (p := 5) (v := ?vv5) (g := gb2) (x := pl0_) ?hg ?ho ?hn ?hp ?hv BK2.out (plA_size _) (by kernel_rfl) ?_; (case ho => rfl); (case hg => rfl); (case hn => rfl); (case hp => rfl); (case hv => rfl); intro w6 hw; have n0_ := Aside0.mk (show Below w.heap.size w w6 from by rw [hw]; exact below_setP HB.out GE2.out); have n1_ := Aside0.mk (show w6.heap[gb1]? = some (.cells (plA pl0_) 69 (0, 0)) from by rw [hw]; exact blk_farP BK1.out NE.out _); have n2_ := Aside0.mk (show w6.heap[gb2]? = some (.cells (plA pl0_) 69 (0, 0)) from by rw [hw]; exact blk_putP BK2.out _); clear HB BK1 BK2; have HB := n0_; have BK1 := n1_; have BK2 := n2_; clear n0_ n1_ n2_ hw; have hcell : w6.cell? ⟨gb2, a0.toNat, none⟩ = some (.int .u64 (rd pl0_ a0)) := (blk_cell BK2.out a0.toNat).trans (by rw [plA_get _ _ (by have := C2.out; have := C3.out; omega), Int.toNat_of_nonneg C2.out]); have hfro : w6.frozen? ⟨gb2, a0.toNat, none⟩ = false := blk_frozen BK2.out _; have hn1 := NE.out; have hn2 := NE.out.symm) | ((with_reducible refine gate_dst (N := 11) rfl ?_); refine pl_load (p := 5) (g := gb2) (x := pl0_.set a0.toNat (IntKind.u64.wrap (2 ^ min a1.toNat 64))) ?hg ?ho ?hp ?hb Try.underlying69 (by kernel_rfl) ?_; (case ho => rfl); (case hg => rfl); (case hp => rfl); (case hb => (have hs := blk_set BK2.out a0.toNat (.int .u64 (IntKind.u64.wrap (2 ^ min a1.toNat 64))); rw [plA_set pl0_ (by decide) _ (by have := C2.out; have := C3.out; omega)] at hs; exact hs))) | ((with_reducible refine gate_store (t := 69) (p := 4) rfl ?_); refine pl_store (p := 4) (v := ?vv4) (g := gb1) (x := pl0_.set a0.toNat (IntKind.u64.wrap (2 ^ min a1.toNat 64))) ?hg ?ho ?hn ?hp ?hv (blk_far BK1.out NE.out _) (plA_size _) (by kernel_rfl) ?_; (case ho => rfl); (case hg => rfl); (case hn => rfl); (case hp => rfl); (case hv => rfl); intro w9 hw; have RB := Aside0.mk (show w9.heap[gb1]? = some (.cells (plA (pl0_.set a0.toNat (IntKind.u64.wrap (2 ^ min a1.toNat 64)))) 69 (0, 0)) from by rw [hw]; exact blk_putP (blk_far BK1.out NE.out _) _); have n0_ := Aside0.mk (show Below w.heap.size w w9 from by rw [hw]; exact below_setP (HB.out.setCell (p := ⟨gb2, a0.toNat, none⟩) GE2.out _) GE1.out); clear HB; have HB := n0_; clear n0_ hw))
  refine bodyPost_ret (results_single rfl (Vals.cell gb1 69 (plA (pl0_.set a0.toNat (IntKind.u64.wrap (2 ^ min a1.toNat 64)))) (0, 0) _ rfl RB.out Try.underlying69 rfl (by kernel_rfl) Vals.nil)) rfl ?_
  exact ⟨by rw [← hr.out], HB.out⟩

/-! ### impl_stretch_pair: function 39 -/
def impl_stretch_pair.f (l0_0 : List Int) (a0_1 : Int) (a0_2 : Int) (a0_3 : Int) : Option (Int × Int) := (impl_stretch_height.f l0_0 a0_1 a0_2 a0_3 (wrap64 (a0_1 - 2))).bind fun t199 => ((impl_stretch_height.f l0_0 a0_1 a0_2 a0_3 (wrap64 (a0_1 - 1))).bind fun t200 => (some (t199, t200)))
def impl_stretch_pair.T1 : Bool × List (List Nat × List Nat) := (true, [([], []), ([], []), ([1], [1]), ([2], [2]), ([0, 3], [0, 3]), ([], []), ([], []), ([6], [6]), ([7], [7]), ([5, 8, 4], [5, 8]), ([4, 9, 0, 1, 2, 3, 4], [4]), ([9, 10, 0, 1, 2, 3, 4, 5, 6, 7, 8, 9, 10], [9])])
def impl_stretch_pair.B1 : List Nat := [0, 0, 2, 6, 15, 0, 0, 64, 192, 511, 1023, 2047]
theorem impl_stretch_pair.tab1 : rtab .any (opsOf Try.f39 1) = impl_stretch_pair.T1 := by kernel_rfl
theorem impl_stretch_pair.bits1 : waitsOk impl_stretch_pair.T1.2 impl_stretch_pair.B1 = true := by kernel_rfl
set_option maxHeartbeats 8000000 in
set_option maxRecDepth 100000 in
theorem impl_stretch_pair.calls (A0_0 : Option Addr) (c0_0 : Nat) (l0_0 : List Int) (a0_1 : Int) (a0_2 : Int) (a0_3 : Int) (r1 : Int) (r2 : Int) (w : World) (hr0_0 : Kd.C (Kd.int .i16) w A0_0 l0_0.length l0_0) (hc0_0 : l0_0.length ≤ c0_0) (h : impl_stretch_pair.f l0_0 a0_1 a0_2 a0_3 = some (r1, r2)) :
    Calls Try.prog 39 #[.agg #[.slice A0_0 l0_0.length c0_0, .int .i64 a0_1, .int .i64 a0_2, .int .i64 a0_3]] w fun e w' => e = .returned (.tuple #[.int .i64 r1, .int .i64 r2]) ∧ Below w.heap.size w w' := by
  have hu75 := Try.underlying75
  have HR0_0 := Aside0.mk hr0_0
  have HC0_0 := Aside0.mk hc0_0
  clear hr0_0 hc0_0
  have HB := Aside0.mk (Below.refl w.heap.size w)
  have H : ((impl_stretch_height.f l0_0 a0_1 a0_2 a0_3 (wrap64 (a0_1 - 2))).bind fun t199 => ((impl_stretch_height.f l0_0 a0_1 a0_2 a0_3 (wrap64 (a0_1 - 1))).bind fun t200 => (some (t199, t200)))) = some (r1, r2) := h
  clear h
  replace H := Option.bind_eq_some_iff.mp H
  obtain ⟨t199, A20, H⟩ := H
  replace H : ((impl_stretch_height.f l0_0 a0_1 a0_2 a0_3 (wrap64 (a0_1 - 1))).bind fun t200 => (some (t199, t200))) = some (r1, r2) := H
  have A2 := Aside0.mk A20
  clear A20
  replace H := Option.bind_eq_some_iff.mp H
  obtain ⟨t200, A30, H⟩ := H
  replace H : (some (t199, t200)) = some (r1, r2) := H
  have A3 := Aside0.mk A30
  clear A30
  simp only [Option.some.injEq, Prod.mk.injEq] at H
  obtain ⟨rfl, rfl⟩ := H
  go_enter Try.func39, Try.ntmps39
  try go_wp2_with (first | ((with_reducible refine gate_dst (N := 1) rfl ?_); refine box_event ?hg (N := 1) ?hd (cs := #[.slice A0_0 l0_0.length c0_0, .int .i64 a0_1, .int .i64 a0_2, .int .i64 a0_3]) (t := 75) ?hr ?_; (case hd => rfl); (case hg => rfl); (case hr => first | (go_simp; done) | (go_simp; rfl)); intro gb198 hg w4 hbox hb; have n0_ := Aside0.mk (below_step (by repeat (first | (with_reducible first | exact HB.out | apply below_alloc | apply pw_below_drewN | apply below_drew1) | exact HB.out)) hb); have n1_ := Aside0.mk (hbox); have n2_ := Aside0.mk ((by rw [hg]; exact (below_size (by repeat (first | (with_reducible first | exact HB.out | apply below_alloc | apply pw_below_drewN | apply below_drew1) | exact HB.out))) : w.heap.size ≤ gb198)); have n3_ := Aside0.mk ((by rw [hg]; exact (below_size (by repeat (first | (with_reducible first | exact HB.out | apply below_alloc | apply pw_below_drewN | apply below_drew1) | exact HB.out))) : w.heap.size ≤ gb198)); clear HB; have HB := n0_; have BK198 := n1_; have GW198 := n2_; have GE198 := n3_; clear n0_ n1_ n2_ n3_; clear hb hbox hg))
  have n0_ := Aside0.mk (blk_drew BK198.out)
  have n1_ := Aside0.mk (below_drew1 HB.out)
  clear BK198
  clear HB
  have BK198 := n0_
  have HB := n1_
  clear n0_ n1_
  refine start_ (n := 12) (S := fun w' => w'.cell? ⟨gb198, 0, none⟩ = some (.slice A0_0 l0_0.length c0_0) ∧ w'.cell? ⟨gb198, 1, none⟩ = some (.int .i64 a0_1) ∧ w'.cell? ⟨gb198, 2, none⟩ = some (.int .i64 a0_2) ∧ w'.cell? ⟨gb198, 3, none⟩ = some (.int .i64 a0_3)) (ds := []) #[false, false, false, false, false, false, false, false, false, false, false, false] (by kernel_rfl) rfl rfl ⟨(blk_cell BK198.out 0).trans rfl, (blk_cell BK198.out 1).trans rfl, (blk_cell BK198.out 2).trans rfl, (blk_cell BK198.out 3).trans rfl⟩ (fun hHeld => ?_); refine with_tabW impl_stretch_pair.tab1 impl_stretch_pair.bits1 (fun HT_ HW_ => ?_)
  generalize w4.drew = w5 at BK198 HB hHeld ⊢
  refine pure_ (i := 1) (N := some 5) (v := ?_) (a' := ?_) #[false, true, false, false, false, false, false, false, false, false, false, false] rfl rfl (any_of HT_.out (by kernel_rfl)) (fun _ _ _ h => h) (Or.inl ⟨by rfl, ?_⟩) ?_ ?_
  rotate_left
  · intro w'
    go_simp
    with_reducible rfl
  rotate_left
  · simp only [Act.put, List.setIfInBounds_toArray, List.set_cons_zero, List.set_cons_succ, i64_w, i32_w]
    rfl
  refine pure_ (i := 6) (N := some 10) (v := ?_) (a' := ?_) #[false, true, false, false, false, false, true, false, false, false, false, false] rfl rfl (any_of HT_.out (by kernel_rfl)) (fun _ _ _ h => h) (Or.inl ⟨by rfl, ?_⟩) ?_ ?_
  rotate_left
  · intro w'
    go_simp
    with_reducible rfl
  rotate_left
  · simp only [Act.put, List.setIfInBounds_toArray, List.set_cons_zero, List.set_cons_succ, i64_w, i32_w]
    rfl
  refine take_ (i := 0) (N := some 4) (v := ?_) (a' := ?_) #[true, true, false, false, false, false, true, false, false, false, false, false] rfl rfl (take_ofW HT_.out HW_.out (by kernel_rfl)) (fun _ _ _ h => h) (Or.inl ⟨by rfl, ?_⟩) hHeld ?_ ?_
  rotate_left
  · rintro w' ⟨s0, s1, s2, s3⟩
    go_simp
    with_reducible rfl
  rotate_left
  · simp only [Act.put, List.setIfInBounds_toArray, List.set_cons_zero, List.set_cons_succ, i64_w, i32_w]
    rfl
  refine take_ (i := 2) (N := some 6) (v := ?_) (a' := ?_) #[true, true, true, false, false, false, true, false, false, false, false, false] rfl rfl (take_ofW HT_.out HW_.out (by kernel_rfl)) (fun _ _ _ h => h) (Or.inl ⟨by rfl, ?_⟩) hHeld ?_ ?_
  rotate_left
  · rintro w' ⟨s0, s1, s2, s3⟩
    go_simp
    with_reducible rfl
  rotate_left
  · simp only [Act.put, List.setIfInBounds_toArray, List.set_cons_zero, List.set_cons_succ, i64_w, i32_w]
    rfl
  refine pure_ (i := 3) (N := some 7) (v := ?_) (a' := ?_) #[true, true, true, true, false, false, true, false, false, false, false, false] rfl rfl (any_of HT_.out (by kernel_rfl)) (fun _ _ _ h => h) (Or.inl ⟨by rfl, ?_⟩) ?_ ?_
  rotate_left
  · intro w'
    go_simp
    with_reducible rfl
  rotate_left
  · simp only [Act.put, List.setIfInBounds_toArray, List.set_cons_zero, List.set_cons_succ, i64_w, i32_w]
    rfl
  refine take_ (i := 5) (N := some 9) (v := ?_) (a' := ?_) #[true, true, true, true, false, true, true, false, false, false, false, false] rfl rfl (take_ofW HT_.out HW_.out (by kernel_rfl)) (fun _ _ _ h => h) (Or.inl ⟨by rfl, ?_⟩) hHeld ?_ ?_
  rotate_left
  · rintro w' ⟨s0, s1, s2, s3⟩
    go_simp
    with_reducible rfl
  rotate_left
  · simp only [Act.put, List.setIfInBounds_toArray, List.set_cons_zero, List.set_cons_succ, i64_w, i32_w]
    rfl
  refine take_ (i := 7) (N := some 11) (v := ?_) (a' := ?_) #[true, true, true, true, false, true, true, true, false, false, false, false] rfl rfl (take_ofW HT_.out HW_.out (by kernel_rfl)) (fun _ _ _ h => h) (Or.inl ⟨by rfl, ?_⟩) hHeld ?_ ?_
  rotate_left
  · rintro w' ⟨s0, s1, s2, s3⟩
    go_simp
    with_reducible rfl
  rotate_left
  · simp only [Act.put, List.setIfInBounds_toArray, List.set_cons_zero, List.set_cons_succ, i64_w, i32_w]
    rfl
  refine pure_ (i := 8) (N := some 12) (v := ?_) (a' := ?_) #[true, true, true, true, false, true, true, true, true, false, false, false] rfl rfl (any_of HT_.out (by kernel_rfl)) (fun _ _ _ h => h) (Or.inl ⟨by rfl, ?_⟩) ?_ ?_
  rotate_left
  · intro w'
    go_simp
    with_reducible rfl
  rotate_left
  · simp only [Act.put, List.setIfInBounds_toArray, List.set_cons_zero, List.set_cons_succ, i64_w, i32_w]
    rfl
  refine one_ (i := 4) (N := some 8) #[true, true, true, true, true, true, true, true, true, false, false, false] rfl rfl (one_of HT_.out (by kernel_rfl)) (by decide) (fun K hK => ?_)
  refine goes_ Try.func68 (by kernel_rfl) rfl #[.agg #[.slice A0_0 l0_0.length c0_0, .int .i64 a0_1, .int .i64 a0_2, .int .i64 a0_3], .int .i64 (wrap64 (a0_1 - 2))] (by rfl) rfl rfl (by (try simp only [List.map_toArray, List.map_cons, List.map_nil]); first | done | rfl | (simp only [List.length_drop, List.length_take]; rfl)) ?_
  with_reducible refine (impl_stretch_height.calls _ _ l0_0 a0_1 a0_2 a0_3 (wrap64 (a0_1 - 2)) t199 _ ?side1 ?side2 A2.out).mono ?_
  (case side1 => repeat (first | exact (Kd.C_below HR0_0.out HB.out) | (with_reducible refine Kd.C_alloc ?_ _) | (with_reducible refine Kd.C_drewN ?_ _) | (with_reducible refine Kd.C_drew ?_)))
  (case side2 => exact HC0_0.out)
  rintro e w6 ⟨rfl, hb⟩
  refine ⟨_, rfl, ?_⟩
  have n0_ := Aside0.mk (blk_below (g := gb198) (o := .cells #[.slice A0_0 l0_0.length c0_0, .int .i64 a0_1, .int .i64 a0_2, .int .i64 a0_3] 75 (0, 0)) (by (with_reducible repeat (first | refine blk_drewN ?_ _ | refine blk_drew ?_ | refine blk_alloc ?_ _)); exact BK198.out) hb)
  have n1_ := Aside0.mk (below_step (by repeat (first | (with_reducible first | exact HB.out | apply below_alloc | apply pw_below_drewN | apply below_drew1 | refine below_set ?_ GE198.out) | exact HB.out)) hb)
  clear BK198
  clear HB
  have BK198 := n0_
  have HB := n1_
  clear n0_ n1_
  (try clear hb)
  (try clear hb2)
  (try clear hk)
  (try clear hi)
  refine hK.out _ _ ⟨(blk_cell BK198.out 0).trans rfl, (blk_cell BK198.out 1).trans rfl, (blk_cell BK198.out 2).trans rfl, (blk_cell BK198.out 3).trans rfl⟩ (fun hHeld => ?_)
  clear hK K
  refine norm_ (a' := ?_) ?_ ?_
  rotate_left
  · show Act.put _ (some 8) _ = _
    simp only [Act.put, List.setIfInBounds_toArray, List.set_cons_zero, List.set_cons_succ, i64_w, i32_w]
    rfl
  refine one_ (i := 9) (N := some 13) #[true, true, true, true, true, true, true, true, true, true, false, false] rfl rfl (one_of HT_.out (by kernel_rfl)) (by decide) (fun K hK => ?_)
  refine goes_ Try.func68 (by kernel_rfl) rfl #[.agg #[.slice A0_0 l0_0.length c0_0, .int .i64 a0_1, .int .i64 a0_2, .int .i64 a0_3], .int .i64 (wrap64 (a0_1 - 1))] (by rfl) rfl rfl (by (try simp only [List.map_toArray, List.map_cons, List.map_nil]); first | done | rfl | (simp only [List.length_drop, List.length_take]; rfl)) ?_
  with_reducible refine (impl_stretch_height.calls _ _ l0_0 a0_1 a0_2 a0_3 (wrap64 (a0_1 - 1)) t200 _ ?side1 ?side2 A3.out).mono ?_
  (case side1 => repeat (first | exact (Kd.C_below HR0_0.out HB.out) | (with_reducible refine Kd.C_alloc ?_ _) | (with_reducible refine Kd.C_drewN ?_ _) | (with_reducible refine Kd.C_drew ?_)))
  (case side2 => exact HC0_0.out)
  rintro e w7 ⟨rfl, hb⟩
  refine ⟨_, rfl, ?_⟩
  have n0_ := Aside0.mk (blk_below (g := gb198) (o := .cells #[.slice A0_0 l0_0.length c0_0, .int .i64 a0_1, .int .i64 a0_2, .int .i64 a0_3] 75 (0, 0)) (by (with_reducible repeat (first | refine blk_drewN ?_ _ | refine blk_drew ?_ | refine blk_alloc ?_ _)); exact BK198.out) hb)
  have n1_ := Aside0.mk (below_step (by repeat (first | (with_reducible first | exact HB.out | apply below_alloc | apply pw_below_drewN | apply below_drew1 | refine below_set ?_ GE198.out) | exact HB.out)) hb)
  clear BK198
  clear HB
  have BK198 := n0_
  have HB := n1_
  clear n0_ n1_
  (try clear hb)
  (try clear hb2)
  (try clear hk)
  (try clear hi)
  refine hK.out _ _ ⟨(blk_cell BK198.out 0).trans rfl, (blk_cell BK198.out 1).trans rfl, (blk_cell BK198.out 2).trans rfl, (blk_cell BK198.out 3).trans rfl⟩ (fun hHeld => ?_)
  clear hK K
  refine norm_ (a' := ?_) ?_ ?_
  rotate_left
  · show Act.put _ (some 13) _ = _
    simp only [Act.put, List.setIfInBounds_toArray, List.set_cons_zero, List.set_cons_succ, i64_w, i32_w]
    rfl
  refine pure_ (i := 10) (N := some 2) (v := ?_) (a' := ?_) #[true, true, true, true, true, true, true, true, true, true, true, false] rfl rfl (any_of HT_.out (by kernel_rfl)) (fun _ _ _ h => h) (Or.inl ⟨by rfl, ?_⟩) ?_ ?_
  rotate_left
  · intro w'
    go_simp
    with_reducible rfl
  rotate_left
  · simp only [Act.put, List.setIfInBounds_toArray, List.set_cons_zero, List.set_cons_succ, i64_w, i32_w]
    rfl
  refine pure_ (i := 11) (N := some 3) (v := ?_) (a' := ?_) #[true, true, true, true, true, true, true, true, true, true, true, true] rfl rfl (any_of HT_.out (by kernel_rfl)) (fun _ _ _ h => h) (Or.inl ⟨by rfl, ?_⟩) ?_ ?_
  rotate_left
  · intro w'
    go_simp
    with_reducible rfl
  rotate_left
  · simp only [Act.put, List.setIfInBounds_toArray, List.set_cons_zero, List.set_cons_succ, i64_w, i32_w]
    rfl
  refine done_ (done_of HT_.out (by kernel_rfl)) ?_
  try go_wp2
  go_ret2
  exact ⟨by first | rfl | (simp [errW_none, errW_some] <;> rfl) | (simp [*, errW_none, errW_some] <;> rfl), by repeat (first | (with_reducible first | exact HB.out | apply below_alloc | apply pw_below_drewN | apply below_drew1 | refine below_set ?_ GE198.out) | exact HB.out)⟩

/-! ### impl_span: function 84 -/
def impl_span.f (a0 : Int) (a1 : Int) : Option (Int) := if (mx a0 0) > (mn a1 63) then (some 0) else (if 0 ≤ (wrap64 ((wrap64 (63 - (mn a1 63))) + (mx a0 0))) then (some (shl .u64 (shr .u64 18446744073709551615 (wrap64 ((wrap64 (63 - (mn a1 63))) + (mx a0 0)))) (mx a0 0))) else (none))
set_option maxHeartbeats 8000000 in
set_option maxRecDepth 100000 in
theorem impl_span.calls (a0 : Int) (a1 : Int) (r : Int) (w : World) (h : impl_span.f a0 a1 = some r) :
    Calls Try.prog 84 #[.int .i64 a0, .int .i64 a1] w fun e w' => e = .returned (.int .u64 r) ∧ Drawn0 w w' := by
  have H : (if (mx a0 0) > (mn a1 63) then (some 0) else (if 0 ≤ (wrap64 ((wrap64 (63 - (mn a1 63))) + (mx a0 0))) then (some (shl .u64 (shr .u64 18446744073709551615 (wrap64 ((wrap64 (63 - (mn a1 63))) + (mx a0 0)))) (mx a0 0))) else (none))) = some r := h
  clear h
  obtain ⟨ji3, hji3⟩ : ∃ j_ : Int, (mx a0 0) = j_ := ⟨_, rfl⟩
  replace H : (if (ji3) > (mn a1 63) then (some 0) else (if 0 ≤ (wrap64 ((wrap64 (63 - (mn a1 63))) + (ji3))) then (some (shl .u64 (shr .u64 18446744073709551615 (wrap64 ((wrap64 (63 - (mn a1 63))) + (ji3)))) (ji3))) else (none))) = some r := by first | (rw [hji3] at H; exact H) | (simp only [hji3] at H ⊢; exact H)
  (try (have hji3l : 0 ≤ ji3 := by (rw [← hji3]; unfold mx; (repeat' split) <;> omega)))
  (try (have hji3m : 0 ≤ ji3 := by omega))
  have hji3_ : (if a0 < 0 then 0 else a0) = ji3 := hji3
  obtain ⟨ji4, hji4⟩ : ∃ j_ : Int, (mn a1 63) = j_ := ⟨_, rfl⟩
  replace H : (if (ji3) > (ji4) then (some 0) else (if 0 ≤ (wrap64 ((wrap64 (63 - (ji4))) + (ji3))) then (some (shl .u64 (shr .u64 18446744073709551615 (wrap64 ((wrap64 (63 - (ji4))) + (ji3)))) (ji3))) else (none))) = some r := by first | (rw [hji4] at H; exact H) | (simp only [hji4] at H ⊢; exact H)
  (try (have hji4h : ji4 ≤ 63 := by (rw [← hji4]; unfold mn; (repeat' split) <;> omega)))
  (try (have hji4g : ji4 ≤ 64 := by omega))
  have hji4_ : (if 63 < a1 then 63 else a1) = ji4 := hji4
  by_cases c5 : (ji3) > (ji4)
  · rw [if_pos c5] at H
    have c5b0 : decide ((ji4) < (ji3)) = true := decide_eq_true c5
    clear c5
    obtain rfl := Option.some.inj H
    go_enter Try.func84, Try.ntmps84
    go_wp2
    go_ret
    exact ⟨by first | rfl | (simp; done) | (simp only [← hji3, ← hji4] <;> (first | rfl | simp)) | (simp [*]; done), by repeat (first | exact Drawn0.refl _ | apply Drawn0.step)⟩
  · rw [if_neg c5] at H
    have c5b0 : decide ((ji4) < (ji3)) = false := decide_eq_false c5
    clear c5
    obtain ⟨ji6, hji6⟩ : ∃ j_ : Int, (wrap64 ((wrap64 (63 - (ji4))) + (ji3))) = j_ := ⟨_, rfl⟩
    replace H : (if 0 ≤ (ji6) then (some (shl .u64 (shr .u64 18446744073709551615 (ji6)) (ji3))) else (none)) = some r := by first | (rw [hji6] at H; exact H) | (simp only [hji6] at H ⊢; exact H)
    have hji6w : (IntKind.i64.wrap ((wrap64 (63 - (ji4))) + (ji3))) = ji6 := (i64_w _).trans hji6
    by_cases c7 : 0 ≤ (ji6)
    · rw [if_pos c7] at H
      have c7b0 := eq_true c7
      have c7b1 : decide (0 ≤ (ji6)) = true := decide_eq_true c7
      clear c7
      obtain ⟨ji8, hji8⟩ : ∃ j_ : Int, (shr .u64 18446744073709551615 (ji6)) = j_ := ⟨_, rfl⟩
      replace H : (some (shl .u64 (ji8) (ji3))) = some r := by first | (rw [hji8] at H; exact H) | (simp only [hji8] at H ⊢; exact H)
      have hji8_ : (18446744073709551615 / 2 ^ min (ji6).toNat 64) = ji8 := hji8
      have hji8z : (ji6) ≤ 64 → (18446744073709551615 / 2 ^ (ji6).toNat) = ji8 := shr_small hji8
      obtain ⟨ji9, hji9⟩ : ∃ j_ : Int, (shl .u64 (ji8) (ji3)) = j_ := ⟨_, rfl⟩
      replace H : (some ji9) = some r := by first | (rw [hji9] at H; exact H) | (simp only [hji9] at H ⊢; exact H)
      have hji9_ : (IntKind.u64.wrap ((ji8) * 2 ^ min (ji3).toNat 64)) = ji9 := hji9
      have hji9z : (ji3) ≤ 64 → (IntKind.u64.wrap ((ji8) * 2 ^ (ji3).toNat)) = ji9 := shl_small hji9
      obtain rfl := Option.some.inj H
      go_enter Try.func84, Try.ntmps84
      go_wp2
      go_ret
      exact ⟨by first | rfl | (simp; done) | (simp only [← hji3, ← hji4, ← hji6, ← hji8, ← hji9] <;> (first | rfl | simp)) | (simp [*]; done), by repeat (first | exact Drawn0.refl _ | apply Drawn0.step)⟩
    · rw [if_neg c7] at H
      exact absurd H (by simp)

/-! ### impl_leads: function 69 -/
def impl_leads.f (a0 : Int) (a1 : Int) (a2 : Int) : Option (Int) := (impl_span.f (wrap64 ((wrap64 ((wrap64 (2 * a1)) - a0)) - a2)) (wrap64 ((wrap64 ((wrap64 (2 * a1)) - a0)) + a2))).bind fun t201 => (some t201)
set_option maxHeartbeats 8000000 in
set_option maxRecDepth 100000 in
theorem impl_leads.calls (a0 : Int) (a1 : Int) (a2 : Int) (r : Int) (w : World) (h : impl_leads.f a0 a1 a2 = some r) :
    Calls Try.prog 69 #[.int .i64 a0, .int .i64 a1, .int .i64 a2] w fun e w' => e = .returned (.int .u64 r) ∧ Drawn0 w w' := by
  have H : ((impl_span.f (wrap64 ((wrap64 ((wrap64 (2 * a1)) - a0)) - a2)) (wrap64 ((wrap64 ((wrap64 (2 * a1)) - a0)) + a2))).bind fun t201 => (some t201)) = some r := h
  clear h
  replace H := Option.bind_eq_some_iff.mp H
  obtain ⟨t201, A40, H⟩ := H
  replace H : (some t201) = some r := H
  have A4 := Aside0.mk A40
  clear A40
  obtain rfl := Option.some.inj H
  go_enter Try.func69, Try.ntmps69
  go_wp2_with (first | ((with_reducible refine gate_callee (f := 84) rfl ?_); refine goesL_ (some 19) rfl rfl Try.func84 (by kernel_rfl) rfl #[.int .i64 (wrap64 ((wrap64 ((wrap64 (2 * a1)) - a0)) - a2)), .int .i64 (wrap64 ((wrap64 ((wrap64 (2 * a1)) - a0)) + a2))] rfl (by (try simp only [List.map_toArray, List.map_cons, List.map_nil]); first | done | rfl | (simp only [List.length_drop, List.length_take]; rfl)) ?_; (with_reducible refine (impl_span.calls (wrap64 ((wrap64 ((wrap64 (2 * a1)) - a0)) - a2)) (wrap64 ((wrap64 ((wrap64 (2 * a1)) - a0)) + a2)) t201 _ A4.out).mono ?_); rintro e w' ⟨rfl, ⟨nd, rfl⟩⟩; refine ⟨_, rfl, ?_⟩))
  go_ret
  exact ⟨by first | rfl | (simp; done) | (simp [*]; done) | (simp [i64_w]; done), by repeat (first | exact Drawn0.refl _ | apply Drawn0.step)⟩

/-! ### impl_led -/
mutual
def impl_led.l0 : Nat → List Int → Int → Int → Int → List Int → Option (List Int)
  | 0, _, _, _, _, _ => none
  | k + 1, g, b, al, x, out => if x < 64 then (if 0 ≤ x then (impl_led.l1 k g b al x (rd g x) 0 out) else (none)) else (some out)
def impl_led.l1 : Nat → List Int → Int → Int → Int → Int → Int → List Int → Option (List Int)
  | 0, _, _, _, _, _, _, _ => none
  | k + 1, g, b, al, x, row, y, out => if y < 64 then (if 0 ≤ y then (if (Go.bits .and .u64 (shr .u64 row y) 1) = 1 then (if out.length = 64 then ((impl_leads.f x y b).bind fun t => (impl_led.l1 k g b al x row (wrap64 (y + 1)) (out.set y.toNat (Go.bits .or .u64 (rd out y) (Go.bits .and .u64 t al))))) else (none)) else (impl_led.l1 k g b al x row (wrap64 (y + 1)) out)) else (none)) else (impl_led.l0 k g b al (wrap64 (x + 1)) out)
end
def impl_led.f (k : Nat) (a0_0 : List Int) (a1 : Int) (a2 : Int) : Option (List Int) := impl_led.l0 k a0_0 a1 a2 0 pl0_
theorem impl_led.mono_l : ∀ k, (∀ y0 y1 y2 y3 y4, LeO (impl_led.l0 k y0 y1 y2 y3 y4) (impl_led.l0 (k + 1) y0 y1 y2 y3 y4)) ∧ (∀ y0 y1 y2 y3 y4 y5 y6, LeO (impl_led.l1 k y0 y1 y2 y3 y4 y5 y6) (impl_led.l1 (k + 1) y0 y1 y2 y3 y4 y5 y6))
  | 0 => ⟨fun _ _ _ _ _ r h => by simp [impl_led.l0] at h, fun _ _ _ _ _ _ _ r h => by simp [impl_led.l1] at h⟩
  | k + 1 => by
    obtain ⟨ih0, ih1⟩ := impl_led.mono_l k
    refine ⟨?_, ?_⟩
    · intro y0 y1 y2 y3 y4
      unfold impl_led.l0
      repeat' first
      | (with_reducible exact ih0 _ _ _ _ _)
      | (with_reducible exact ih1 _ _ _ _ _ _ _)
      | (with_reducible exact LeO.refl _)
      | (with_reducible exact LeO.none _)
      | (with_reducible refine LeO.ite ?_ ?_)
      | (with_reducible refine LeO.bind ?_ (fun _ => ?_))
    · intro y0 y1 y2 y3 y4 y5 y6
      unfold impl_led.l1
      repeat' first
      | (with_reducible exact ih0 _ _ _ _ _)
      | (with_reducible exact ih1 _ _ _ _ _ _ _)
      | (with_reducible exact LeO.refl _)
      | (with_reducible exact LeO.none _)
      | (with_reducible refine LeO.ite ?_ ?_)
      | (with_reducible refine LeO.bind ?_ (fun _ => ?_))
theorem impl_led.mono : ∀ a0 a1 a2 k, LeO (impl_led.f k a0 a1 a2) (impl_led.f (k + 1) a0 a1 a2) := by
  intro a0 a1 a2 k
  exact (impl_led.mono_l k).1 _ _ _ _ _
set_option maxHeartbeats 8000000 in
set_option maxRecDepth 100000 in
theorem impl_led.calls (k : Nat) (a0_0 : List Int) (a1 : Int) (a2 : Int) (r : List Int) (w : World) (h : impl_led.f k a0_0 a1 a2 = some r) :
    Calls Try.prog 40 #[.agg (plA a0_0), .int .i64 a1, .int .u64 a2] w fun e w' => e = .returned (.agg (plA r)) ∧ Below w.heap.size w w' := by
  have hu69 := Try.underlying69
  have HB := Aside0.mk (Below.refl w.heap.size w)
  have H' := Aside0.mk (show impl_led.l0 k a0_0 a1 a2 0 pl0_ = some r from h)
  clear h
  go_enter Try.func40, Try.ntmps40
  go_wp2_with (first | ((with_reducible refine gate_dst (N := 3) rfl ?_); refine box_event ?hg (N := 3) ?hd (cs := plA a0_0) (t := 69) ?hr ?_; (case hd => rfl); (case hg => rfl); (case hr => first | (go_simp; done) | (go_simp; rfl)); intro gb3 hg w3 hbox hb; have n0_ := Aside0.mk (below_step HB.out hb); have BK3 := Aside0.mk hbox; have GE3 := Aside0.mk (show w.heap.size ≤ gb3 from by rw [hg]; exact below_size HB.out); clear HB; have HB := n0_; clear n0_ hb hbox hg) | ((with_reducible refine gate_dst (N := 6) rfl ?_); refine box_event ?hg (N := 6) ?hd (cs := plA pl0_) (t := 69) ?hr ?_; (case hd => rfl); (case hg => rfl); (case hr => first | (go_simp; done) | (go_simp; rfl)); intro gb6 hg w4 hbox hb; have n0_ := Aside0.mk (below_step HB.out hb); have BK6 := Aside0.mk hbox; have GE6 := Aside0.mk (show w.heap.size ≤ gb6 from by rw [hg]; exact below_size HB.out); have n_BK3 := Aside0.mk (blk_below BK3.out hb); have N3_6 := Aside0.mk (show gb3 ≠ gb6 from by rw [hg]; exact Nat.ne_of_lt (blk_lt BK3.out)); clear HB BK3; have HB := n0_; have BK3 := n_BK3; clear n0_ n_BK3 hb hbox hg) | ((with_reducible refine gate_dst (N := 7) rfl ?_); refine box_event ?hg (N := 7) ?hd (cs := plA pl0_) (t := 69) ?hr ?_; (case hd => rfl); (case hg => rfl); (case hr => first | (go_simp; done) | (go_simp; rfl)); intro gb7 hg w5 hbox hb; have n0_ := Aside0.mk (below_step HB.out hb); have BK7 := Aside0.mk hbox; have GE7 := Aside0.mk (show w.heap.size ≤ gb7 from by rw [hg]; exact below_size HB.out); have n_BK3 := Aside0.mk (blk_below BK3.out hb); have n_BK6 := Aside0.mk (blk_below BK6.out hb); have N3_7 := Aside0.mk (show gb3 ≠ gb7 from by rw [hg]; exact Nat.ne_of_lt (blk_lt BK3.out)); have N6_7 := Aside0.mk (show gb6 ≠ gb7 from by rw [hg]; exact Nat.ne_of_lt (blk_lt BK6.out)); clear HB BK3 BK6; have HB := n0_; have BK3 := n_BK3; have BK6 := n_BK6; clear n0_ n_BK3 n_BK6 hb hbox hg) | ((with_reducible refine gate_store (t := 69) (p := 7) rfl ?_); refine pl_store (p := 7) (v := ?vv7) (g := gb7) (x := pl0_) ?hg ?ho ?hn ?hp ?hv BK7.out (plA_size _) (by kernel_rfl) ?_; (case ho => rfl); (case hg => rfl); (case hn => rfl); (case hp => rfl); (case hv => rfl); intro w6 hw; have n0_ := Aside0.mk (show Below w.heap.size w w6 from by rw [hw]; exact below_setP HB.out GE7.out); have n1_ := Aside0.mk (show w6.heap[gb7]? = some (.cells (plA (pl0_)) 69 (0, 0)) from by rw [hw]; exact blk_putP BK7.out _); have n_BK3 := Aside0.mk (show w6.heap[gb3]? = some (.cells (plA a0_0) 69 (0, 0)) from by rw [hw]; exact blk_farP BK3.out N3_7.out _); have n_BK6 := Aside0.mk (show w6.heap[gb6]? = some (.cells (plA pl0_) 69 (0, 0)) from by rw [hw]; exact blk_farP BK6.out N6_7.out _); clear HB BK7 BK3 BK6; have HB := n0_; have BK7 := n1_; have BK3 := n_BK3; have BK6 := n_BK6; clear n0_ n1_ n_BK3 n_BK6 hw) | ((with_reducible refine gate_dst (N := 12) rfl ?_); refine pl_load (p := 3) (g := gb3) (x := a0_0) ?hg ?ho ?hp BK3.out Try.underlying69 (by kernel_rfl) ?_; (case ho => rfl); (case hg => rfl); (case hp => rfl)))
  have N7 := N6_7
  clear BK3 GE3 N3_6 N3_7
  go_loopg [13] k (fun kq v13 w' => ∃ (x1 : Int) (o1 : List Int), v13 = .int .i64 x1 ∧ Aside0 (impl_led.l0 kq a0_0 a1 a2 x1 o1 = some r) ∧ Aside0 (kq ≤ k) ∧ Aside0 (w'.heap[gb6]? = some (.cells (plA pl0_) 69 (0, 0))) ∧ Aside0 (w'.heap[gb7]? = some (.cells (plA o1) 69 (0, 0))) ∧ Aside0 (Below w.heap.size w w'))
  case atStart => exact ⟨0, pl0_, (by first | rfl | (simp; done)), H', ⟨Nat.le_refl _⟩, BK6, BK7, HB⟩
  case round =>
    clear H' BK6 BK7 HB
    obtain ⟨x1, o1, rfl, HA, HK1, BK6, BK7, HB⟩ := hrel
    cases gk with
    | zero => exact absurd HA.out (by simp [impl_led.l0])
    | succ k1 =>
      have H := HA.out
      clear HA
      simp only [impl_led.l0] at H
      by_cases c5 : x1 < 64
      · rw [if_pos c5] at H
        have c5b0 : decide (x1 < 64) = true := decide_eq_true c5
        by_cases c6 : 0 ≤ x1
        · rw [if_pos c6] at H
          have hpx := fun w' : World => pl_index (P := Try.prog) (W := w') (x := a0_0) (k := .i64) Try.underlying69 Try.underlying24 (by kernel_rfl) c6 c5
          have X0 := Aside0.mk c6
          have X1 := Aside0.mk c5
          have H' := Aside0.mk H
          clear H c5 c6
          go_wp2
          clear hpx c5b0
          go_loopg [17] k1 (fun kq v17 w' => ∃ (y1 : Int) (o2 : List Int), v17 = .int .i64 y1 ∧ Aside0 (impl_led.l1 kq a0_0 a1 a2 x1 (rd a0_0 x1) y1 o2 = some r) ∧ Aside0 (kq ≤ k1) ∧ Aside0 (w'.heap[gb6]? = some (.cells (plA pl0_) 69 (0, 0))) ∧ Aside0 (w'.heap[gb7]? = some (.cells (plA o2) 69 (0, 0))) ∧ Aside0 (Below w.heap.size w w'))
          case atStart => exact ⟨0, o1, (by first | rfl | (simp; done)), H', ⟨Nat.le_refl _⟩, BK6, BK7, HB⟩
          case round =>
            clear H' BK6 BK7 HB
            obtain ⟨y1, o2, rfl, HA, HK2, BK6, BK7, HB⟩ := hrel
            cases gk with
            | zero => exact absurd HA.out (by simp [impl_led.l1])
            | succ k2 =>
              have H := HA.out
              clear HA
              simp only [impl_led.l1] at H
              by_cases c7 : y1 < 64
              · rw [if_pos c7] at H
                have c7b0 : decide (y1 < 64) = true := decide_eq_true c7
                by_cases c8 : 0 ≤ y1
                · rw [if_pos c8] at H
                  have e1 : (0 ≤ y1) = True := eq_true c8
                  have e2 : (y1 < 64) = True := eq_true c7
                  have Y0 := Aside0.mk c8
                  have Y1 := Aside0.mk c7
                  by_cases c9 : (Go.bits .and .u64 (shr .u64 (rd a0_0 x1) y1) 1) = 1
                  · rw [if_pos c9] at H
                    have c9b0 : ((Go.bits .and .u64 (rd a0_0 x1 / 2 ^ min y1.toNat 64) 1) == 1) = true := beq_iff_eq.mpr c9
                    by_cases c10 : ¬ (o2.length = 64)
                    · rw [if_neg c10] at H; cases H
                    replace c10 := Decidable.not_not.mp c10
                    rw [if_pos c10] at H
                    have C10 := Aside0.mk c10
                    obtain ⟨t, A0, H⟩ := Option.bind_eq_some_iff.mp H
                    have A1 := Aside0.mk A0
                    have H' := Aside0.mk H
                    clear H A0 c7 c8 c9 c10
                    go_wp2
                    have n0_ := Aside0.mk (blk_drew BK6.out)
                    have n1_ := Aside0.mk (blk_drew BK7.out)
                    have n2_ := Aside0.mk (HB.out.drew)
                    clear BK6 BK7 HB
                    have BK6 := n0_
                    have BK7 := n1_
                    have HB := n2_
                    clear n0_ n1_ n2_
                    refine start_ (n := 12) (S := fun w' => w'.cell? ⟨gb7, y1.toNat, none⟩ = some (.int .u64 (rd o2 y1))) (ds := [11]) #[false, false, false, false, false, false, false, false, false, false, false, false] (by kernel_rfl) rfl rfl ((blk_cell BK7.out y1.toNat).trans (by rw [plA_get _ _ (by have := Y0.out; have := Y1.out; omega), Int.toNat_of_nonneg Y0.out])) (fun hHeld => ?_)
                    generalize wr.drew = wd at BK6 BK7 HB hHeld ⊢
                    refine pure_ (i := 0) (N := some 25) (v := ?_) (a' := ?_) #[true, false, false, false, false, false, false, false, false, false, false, false] rfl rfl (by kernel_rfl) (fun _ _ _ h => h) (Or.inl ⟨by rfl, ?_⟩) ?_ ?_
                    rotate_left
                    · intro w'
                      go_simp
                      first | done | with_reducible rfl | rfl
                    rotate_left
                    · simp only [Act.put, List.setIfInBounds_toArray, List.set_cons_zero, List.set_cons_succ, i64_w, i32_w]
                      rfl
                    refine pure_ (i := 1) (N := some 26) (v := ?_) (a' := ?_) #[true, true, false, false, false, false, false, false, false, false, false, false] rfl rfl (by kernel_rfl) (fun _ _ _ h => h) (Or.inl ⟨by rfl, ?_⟩) ?_ ?_
                    rotate_left
                    · intro w'
                      go_simp
                      first | done | with_reducible rfl | rfl
                    rotate_left
                    · simp only [Act.put, List.setIfInBounds_toArray, List.set_cons_zero, List.set_cons_succ, i64_w, i32_w]
                      rfl
                    refine pure_ (i := 3) (N := some 28) (v := ?_) (a' := ?_) #[true, true, false, true, false, false, false, false, false, false, false, false] rfl rfl (by kernel_rfl) (fun _ _ _ h => h) (Or.inl ⟨by rfl, ?_⟩) ?_ ?_
                    rotate_left
                    · intro w'
                      go_simp
                      first | done | with_reducible rfl | rfl
                    rotate_left
                    · simp only [Act.put, List.setIfInBounds_toArray, List.set_cons_zero, List.set_cons_succ, i64_w, i32_w]
                      rfl
                    refine pure_ (i := 4) (N := some 29) (v := ?_) (a' := ?_) #[true, true, false, true, true, false, false, false, false, false, false, false] rfl rfl (by kernel_rfl) (fun _ _ _ h => h) (Or.inl ⟨by rfl, ?_⟩) ?_ ?_
                    rotate_left
                    · intro w'
                      go_simp
                      first | done | with_reducible rfl | rfl
                    rotate_left
                    · simp only [Act.put, List.setIfInBounds_toArray, List.set_cons_zero, List.set_cons_succ, i64_w, i32_w]
                      rfl
                    refine pure_ (i := 5) (N := some 30) (v := ?_) (a' := ?_) #[true, true, false, true, true, true, false, false, false, false, false, false] rfl rfl (by kernel_rfl) (fun _ _ _ h => h) (Or.inl ⟨by rfl, ?_⟩) ?_ ?_
                    rotate_left
                    · intro w'
                      go_simp
                      first | done | with_reducible rfl | rfl
                    rotate_left
                    · simp only [Act.put, List.setIfInBounds_toArray, List.set_cons_zero, List.set_cons_succ, i64_w, i32_w]
                      rfl
                    refine pure_ (i := 7) (N := some 32) (v := ?_) (a' := ?_) #[true, true, false, true, true, true, false, true, false, false, false, false] rfl rfl (by kernel_rfl) (fun _ _ _ h => h) (Or.inl ⟨by rfl, ?_⟩) ?_ ?_
                    rotate_left
                    · intro w'
                      go_simp
                      first | done | with_reducible rfl | rfl
                    rotate_left
                    · simp only [Act.put, List.setIfInBounds_toArray, List.set_cons_zero, List.set_cons_succ, i64_w, i32_w]
                      rfl
                    refine take_ (i := 2) (N := some 27) (v := ?_) (a' := ?_) #[true, true, true, true, true, true, false, true, false, false, false, false] rfl rfl (by kernel_rfl) (fun _ _ _ h => h) (Or.inl ⟨by rfl, ?_⟩) hHeld ?_ ?_
                    rotate_left
                    · intro w' s0
                      go_simp
                      first | done | with_reducible rfl | rfl
                    rotate_left
                    · simp only [Act.put, List.setIfInBounds_toArray, List.set_cons_zero, List.set_cons_succ, i64_w, i32_w]
                      rfl
                    refine one_ (i := 6) (N := some 31) #[true, true, true, true, true, true, true, true, false, false, false, false] rfl rfl (by kernel_rfl) (by decide) (fun K hK => ?_)
                    refine goes_ Try.func69 (by kernel_rfl) rfl #[.int .i64 x1, .int .i64 y1, .int .i64 a1] (by rfl) rfl rfl (by (try simp only [List.map_toArray, List.map_cons, List.map_nil]); first | done | rfl) ?_
                    with_reducible refine (impl_leads.calls x1 y1 a1 t _ A1.out).mono ?_
                    rintro e w' ⟨rfl, ⟨nd, rfl⟩⟩
                    refine ⟨_, rfl, ?_⟩
                    have n0_ := Aside0.mk (show (wd.drewN nd).heap[gb6]? = some (.cells (plA pl0_) 69 (0, 0)) from BK6.out)
                    have n1_ := Aside0.mk (show (wd.drewN nd).heap[gb7]? = some (.cells (plA o2) 69 (0, 0)) from BK7.out)
                    have n2_ := Aside0.mk (show Below w.heap.size w (wd.drewN nd) from by apply pw_below_drewN; exact HB.out)
                    clear BK6 BK7 HB
                    have BK6 := n0_
                    have BK7 := n1_
                    have HB := n2_
                    clear n0_ n1_ n2_
                    refine hK.out _ _ ((blk_cell BK7.out y1.toNat).trans (by rw [plA_get _ _ (by have := Y0.out; have := Y1.out; omega), Int.toNat_of_nonneg Y0.out])) (fun hHeld => ?_)
                    clear hK K
                    generalize wd.drewN nd = we at BK6 BK7 HB hHeld ⊢
                    refine norm_ (a' := ?_) ?_ ?_
                    rotate_left
                    · show Act.put _ (some 31) _ = _
                      simp only [Act.put, List.setIfInBounds_toArray, List.set_cons_zero, List.set_cons_succ, i64_w, i32_w]
                      rfl
                    refine pure_ (i := 8) (N := some 33) (v := ?_) (a' := ?_) #[true, true, true, true, true, true, true, true, true, false, false, false] rfl rfl (by kernel_rfl) (fun _ _ _ h => h) (Or.inl ⟨by rfl, ?_⟩) ?_ ?_
                    rotate_left
                    · intro w'
                      go_simp
                      first | done | with_reducible rfl | rfl
                    rotate_left
                    · simp only [Act.put, List.setIfInBounds_toArray, List.set_cons_zero, List.set_cons_succ, i64_w, i32_w]
                      rfl
                    refine pure_ (i := 9) (N := some 34) (v := ?_) (a' := ?_) #[true, true, true, true, true, true, true, true, true, true, false, false] rfl rfl (by kernel_rfl) (fun _ _ _ h => h) (Or.inl ⟨by rfl, ?_⟩) ?_ ?_
                    rotate_left
                    · intro w'
                      go_simp
                      first | done | with_reducible rfl | rfl
                    rotate_left
                    · simp only [Act.put, List.setIfInBounds_toArray, List.set_cons_zero, List.set_cons_succ, i64_w, i32_w]
                      rfl
                    refine pure_ (i := 10) (N := some 35) (v := ?_) (a' := ?_) #[true, true, true, true, true, true, true, true, true, true, true, false] rfl rfl (by kernel_rfl) (fun _ _ _ h => h) (Or.inl ⟨by rfl, ?_⟩) ?_ ?_
                    rotate_left
                    · intro w'
                      go_simp
                      first | done | with_reducible rfl | rfl
                    rotate_left
                    · simp only [Act.put, List.setIfInBounds_toArray, List.set_cons_zero, List.set_cons_succ, i64_w, i32_w]
                      rfl
                    have hcell := hHeld
                    have hfro : we.frozen? ⟨gb7, y1.toNat, none⟩ = false := blk_frozen BK7.out _
                    refine last_ (i := 11) (N := none) #[true, true, true, true, true, true, true, true, true, true, true, true] rfl rfl (by kernel_rfl) (by decide) (fun K hK => ?_)
                    refine skip_ (w1 := ?_) (by rfl) rfl ?_ ?_
                    rotate_left
                    · go_simp
                      first | done | rfl
                    refine hK.out _ _ ?_
                    clear hK K
                    refine done_ (by kernel_rfl) ?_
                    have n0_ := Aside0.mk (blk_far BK6.out N7.out (Value.int .u64 (Go.bits .or .u64 (rd o2 y1) (Go.bits .and .u64 t a2))) (p := ⟨gb7, y1.toNat, none⟩))
                    have n1_ := Aside0.mk (blk_set BK7.out y1.toNat (Value.int .u64 (Go.bits .or .u64 (rd o2 y1) (Go.bits .and .u64 t a2))))
                    rw [plA_set o2 C10.out _ (by have := Y0.out; have := Y1.out; omega)] at n1_
                    have n2_ := Aside0.mk (HB.out.setCell (p := ⟨gb7, y1.toNat, none⟩) GE7.out (Value.int .u64 (Go.bits .or .u64 (rd o2 y1) (Go.bits .and .u64 t a2))))
                    clear BK6 BK7 HB hcell hHeld hfro
                    have BK6 := n0_
                    have BK7 := n1_
                    have HB := n2_
                    clear n0_ n1_ n2_
                    generalize (we.setCell ⟨gb7, y1.toNat, none⟩ (Value.int .u64 (Go.bits .or .u64 (rd o2 y1) (Go.bits .and .u64 t a2)))) = wz at BK6 BK7 HB ⊢
                    go_wp2
                    go_roundg k2
                    case measure => have := HK1.out; have := HK2.out; omega
                    case rel => exact ⟨(wrap64 (y1 + 1)), _, (by first | rfl | (simp; done) | (simp [*]; done)), H', ⟨by have := HK1.out; have := HK2.out; omega⟩, BK6, BK7, HB⟩
                  · rw [if_neg c9] at H
                    have c9b0 : ((Go.bits .and .u64 (rd a0_0 x1 / 2 ^ min y1.toNat 64) 1) == 1) = false := beq_eq_false_iff_ne.mpr c9
                    have H' := Aside0.mk H
                    clear H c7 c8 c9
                    go_wp2
                    go_roundg k2
                    case measure => have := HK1.out; have := HK2.out; omega
                    case rel => exact ⟨(wrap64 (y1 + 1)), o2, (by first | rfl | (simp; done) | (simp [*]; done)), H', ⟨by have := HK1.out; have := HK2.out; omega⟩, BK6, BK7, HB⟩
                · rw [if_neg c8] at H; cases H
              · rw [if_neg c7] at H
                have c7b0 : decide (y1 < 64) = false := decide_eq_false c7
                have H' := Aside0.mk H
                clear H c7
                go_wp2
                go_roundg k2
                case measure => have := HK1.out; have := HK2.out; omega
                case rel => exact ⟨(wrap64 (x1 + 1)), o2, (by first | rfl | (simp; done) | (simp [*]; done)), H', ⟨by have := HK1.out; have := HK2.out; omega⟩, BK6, BK7, HB⟩
        · rw [if_neg c6] at H; cases H
      · rw [if_neg c5] at H
        have c5b0 : decide (x1 < 64) = false := decide_eq_false c5
        clear c5
        obtain rfl := Option.some.inj H
        go_upto_region 12 with (fail)
        refine wp_region_lit ?_
        refine pl_load (p := 7) (g := gb7) (x := o1) ?hg ?ho ?hp BK7.out Try.underlying69 (by kernel_rfl) ?_
        (case ho => rfl)
        (case hg => rfl)
        (case hp => rfl)
        refine pl_store (p := 6) (v := ?v6) (g := gb6) (x := o1) ?hg ?ho ?hn ?hp ?hv BK6.out (plA_size _) (by kernel_rfl) ?_
        (case ho => rfl)
        (case hg => rfl)
        (case hn => rfl)
        (case hp => rfl)
        (case hv => rfl)
        intro w9 hw
        have RB := Aside0.mk (show w9.heap[gb6]? = some (.cells (plA o1) 69 (0, 0)) from by rw [hw]; exact blk_putP BK6.out _)
        have n0_ := Aside0.mk (show Below w.heap.size w w9 from by rw [hw]; exact below_setP HB.out GE6.out)
        clear HB hw
        (try simp only [Act.put, List.setIfInBounds_toArray, List.set_cons_zero, List.set_cons_succ])
        go_wp2
        refine bodyPost_ret (results_single rfl (Vals.cell gb6 69 (plA o1) (0, 0) _ rfl RB.out Try.underlying69 rfl (by kernel_rfl) Vals.nil)) rfl ?_
        exact ⟨rfl, n0_.out⟩

/-! ### impl_stretch_allowed: function 41 -/
def impl_stretch_allowed.f (l0_0 : List Int) (a0_1 : Int) (a0_2 : Int) (a0_3 : Int) (a1 : Int) : Option (Int) := if a1 < a0_2 then (some 18446744073709551615) else ((impl_stretch_height.f l0_0 a0_1 a0_2 a0_3 (wrap64 (a0_1 + a1))).bind fun t203 => (if 0 ≤ t203 then (some (shl .u64 1 t203)) else (none)))
set_option maxHeartbeats 8000000 in
set_option maxRecDepth 100000 in
theorem impl_stretch_allowed.calls (A0_0 : Option Addr) (c0_0 : Nat) (l0_0 : List Int) (a0_1 : Int) (a0_2 : Int) (a0_3 : Int) (a1 : Int) (r : Int) (w : World) (hr0_0 : Kd.C (Kd.int .i16) w A0_0 l0_0.length l0_0) (hc0_0 : l0_0.length ≤ c0_0) (h : impl_stretch_allowed.f l0_0 a0_1 a0_2 a0_3 a1 = some r) :
    Calls Try.prog 41 #[.agg #[.slice A0_0 l0_0.length c0_0, .int .i64 a0_1, .int .i64 a0_2, .int .i64 a0_3], .int .i64 a1] w fun e w' => e = .returned (.int .u64 r) ∧ Below w.heap.size w w' := by
  have hu75 := Try.underlying75
  have HR0_0 := Aside0.mk hr0_0
  have HC0_0 := Aside0.mk hc0_0
  clear hr0_0 hc0_0
  have HB := Aside0.mk (Below.refl w.heap.size w)
  have H : (if a1 < a0_2 then (some 18446744073709551615) else ((impl_stretch_height.f l0_0 a0_1 a0_2 a0_3 (wrap64 (a0_1 + a1))).bind fun t203 => (if 0 ≤ t203 then (some (shl .u64 1 t203)) else (none)))) = some r := h
  clear h
  by_cases c3 : a1 < a0_2
  · rw [if_pos c3] at H
    have c3b0 : decide (a1 < a0_2) = true := decide_eq_true c3
    clear c3
    obtain rfl := Option.some.inj H
    go_enter Try.func41, Try.ntmps41
    go_wp2_with (first | ((with_reducible refine gate_dst (N := 2) rfl ?_); refine box_event ?hg (N := 2) ?hd (cs := #[.slice A0_0 l0_0.length c0_0, .int .i64 a0_1, .int .i64 a0_2, .int .i64 a0_3]) (t := 75) ?hr ?_; (case hd => rfl); (case hg => rfl); (case hr => first | (go_simp; done) | (go_simp; rfl)); intro gb202 hg w4 hbox hb; have n0_ := Aside0.mk (below_step (by repeat (first | (with_reducible first | exact HB.out | apply below_alloc | apply pw_below_drewN | apply below_drew1) | exact HB.out)) hb); have n1_ := Aside0.mk (hbox); have n2_ := Aside0.mk ((by rw [hg]; exact (below_size (by repeat (first | (with_reducible first | exact HB.out | apply below_alloc | apply pw_below_drewN | apply below_drew1) | exact HB.out))) : w.heap.size ≤ gb202)); have n3_ := Aside0.mk ((by rw [hg]; exact (below_size (by repeat (first | (with_reducible first | exact HB.out | apply below_alloc | apply pw_below_drewN | apply below_drew1) | exact HB.out))) : w.heap.size ≤ gb202)); clear HB; have HB := n0_; have BK202 := n1_; have GW202 := n2_; have GE202 := n3_; clear n0_ n1_ n2_ n3_; clear hb hbox hg; have hcz5_0 : w4.cell? ⟨gb202, 0, none⟩ = some (.slice A0_0 l0_0.length c0_0) := (blk_cell BK202.out 0).trans rfl; have hcz5_1 : w4.cell? ⟨gb202, 1, none⟩ = some (.int .i64 a0_1) := (blk_cell BK202.out 1).trans rfl; have hcz5_2 : w4.cell? ⟨gb202, 2, none⟩ = some (.int .i64 a0_2) := (blk_cell BK202.out 2).trans rfl; have hcz5_3 : w4.cell? ⟨gb202, 3, none⟩ = some (.int .i64 a0_3) := (blk_cell BK202.out 3).trans rfl; have hfz5_0 := blk_frozen BK202.out 0; have hfz5_1 := blk_frozen BK202.out 1; have hfz5_2 := blk_frozen BK202.out 2; have hfz5_3 := blk_frozen BK202.out 3))
    go_ret
    exact ⟨by first | rfl | (simp [errW_none, errW_some] <;> rfl) | (simp [*, errW_none, errW_some] <;> rfl), by repeat (first | (with_reducible first | exact HB.out | apply below_alloc | apply pw_below_drewN | apply below_drew1 | refine below_set ?_ GE202.out) | exact HB.out)⟩
  · rw [if_neg c3] at H
    have c3b0 : decide (a1 < a0_2) = false := decide_eq_false c3
    clear c3
    replace H := Option.bind_eq_some_iff.mp H
    obtain ⟨t203, A60, H⟩ := H
    replace H : (if 0 ≤ t203 then (some (shl .u64 1 t203)) else (none)) = some r := H
    have A6 := Aside0.mk A60
    clear A60
    by_cases c7 : 0 ≤ t203
    · rw [if_pos c7] at H
      have c7b0 := eq_true c7
      have c7b1 : decide (0 ≤ t203) = true := decide_eq_true c7
      clear c7
      obtain ⟨ji8, hji8⟩ : ∃ j_ : Int, (shl .u64 1 t203) = j_ := ⟨_, rfl⟩
      replace H : (some ji8) = some r := by first | (rw [hji8] at H; exact H) | (simp only [hji8] at H ⊢; exact H)
      (try rw [hji8] at A6)
      have hji8_ : (IntKind.u64.wrap (1 * 2 ^ min t203.toNat 64)) = ji8 := hji8
      have hji8z : t203 ≤ 64 → (IntKind.u64.wrap (1 * 2 ^ t203.toNat)) = ji8 := shl_small hji8
      have hji8u : (IntKind.u64.wrap (2 ^ min t203.toNat 64)) = ji8 := by have h_ := hji8_; rw [Int.one_mul] at h_; exact h_
      have hji8v : t203 ≤ 64 → (IntKind.u64.wrap (2 ^ t203.toNat)) = ji8 := fun hle_ => by have h_ := hji8z hle_; rw [Int.one_mul] at h_; exact h_
      obtain rfl := Option.some.inj H
      go_enter Try.func41, Try.ntmps41
      go_wp2_with (first | ((with_reducible refine gate_dst (N := 2) rfl ?_); refine box_event ?hg (N := 2) ?hd (cs := #[.slice A0_0 l0_0.length c0_0, .int .i64 a0_1, .int .i64 a0_2, .int .i64 a0_3]) (t := 75) ?hr ?_; (case hd => rfl); (case hg => rfl); (case hr => first | (go_simp; done) | (go_simp; rfl)); intro gb202 hg w9 hbox hb; have n0_ := Aside0.mk (below_step (by repeat (first | (with_reducible first | exact HB.out | apply below_alloc | apply pw_below_drewN | apply below_drew1) | exact HB.out)) hb); have n1_ := Aside0.mk (hbox); have n2_ := Aside0.mk ((by rw [hg]; exact (below_size (by repeat (first | (with_reducible first | exact HB.out | apply below_alloc | apply pw_below_drewN | apply below_drew1) | exact HB.out))) : w.heap.size ≤ gb202)); have n3_ := Aside0.mk ((by rw [hg]; exact (below_size (by repeat (first | (with_reducible first | exact HB.out | apply below_alloc | apply pw_below_drewN | apply below_drew1) | exact HB.out))) : w.heap.size ≤ gb202)); clear HB; have HB := n0_; have BK202 := n1_; have GW202 := n2_; have GE202 := n3_; clear n0_ n1_ n2_ n3_; clear hb hbox hg; have hcz10_0 : w9.cell? ⟨gb202, 0, none⟩ = some (.slice A0_0 l0_0.length c0_0) := (blk_cell BK202.out 0).trans rfl; have hcz10_1 : w9.cell? ⟨gb202, 1, none⟩ = some (.int .i64 a0_1) := (blk_cell BK202.out 1).trans rfl; have hcz10_2 : w9.cell? ⟨gb202, 2, none⟩ = some (.int .i64 a0_2) := (blk_cell BK202.out 2).trans rfl; have hcz10_3 : w9.cell? ⟨gb202, 3, none⟩ = some (.int .i64 a0_3) := (blk_cell BK202.out 3).trans rfl; have hfz10_0 := blk_frozen BK202.out 0; have hfz10_1 := blk_frozen BK202.out 1; have hfz10_2 := blk_frozen BK202.out 2; have hfz10_3 := blk_frozen BK202.out 3) | ((with_reducible refine gate_callee (f := 68) rfl ?_); refine goesL_ (some 14) rfl rfl Try.func68 (by kernel_rfl) rfl #[.agg #[.slice A0_0 l0_0.length c0_0, .int .i64 a0_1, .int .i64 a0_2, .int .i64 a0_3], .int .i64 (wrap64 (a0_1 + a1))] rfl (by (try simp only [List.map_toArray, List.map_cons, List.map_nil]); first | done | rfl | (simp only [List.length_drop, List.length_take]; rfl)) ?_; (with_reducible refine (impl_stretch_height.calls _ _ l0_0 a0_1 a0_2 a0_3 (wrap64 (a0_1 + a1)) t203 _ ?side1 ?side2 A6.out).mono ?_); (case side1 => repeat (first | exact (Kd.C_below HR0_0.out HB.out) | (with_reducible refine Kd.C_alloc ?_ _) | (with_reducible refine Kd.C_drewN ?_ _) | (with_reducible refine Kd.C_drew ?_))); (case side2 => exact HC0_0.out); rintro e w11 ⟨rfl, hb⟩; refine ⟨_, rfl, ?_⟩; have n0_ := Aside0.mk (blk_below (g := gb202) (o := .cells #[.slice A0_0 l0_0.length c0_0, .int .i64 a0_1, .int .i64 a0_2, .int .i64 a0_3] 75 (0, 0)) (by (with_reducible repeat (first | refine blk_drewN ?_ _ | refine blk_drew ?_ | refine blk_alloc ?_ _)); exact BK202.out) hb); have n1_ := Aside0.mk (below_step (by repeat (first | (with_reducible first | exact HB.out | apply below_alloc | apply pw_below_drewN | apply below_drew1 | refine below_set ?_ GE202.out) | exact HB.out)) hb); clear BK202; clear HB; have BK202 := n0_; have HB := n1_; clear n0_ n1_; (try clear hb); (try clear hb2); (try clear hk); (try clear hi)))
      go_ret
      exact ⟨by first | rfl | (simp [errW_none, errW_some] <;> rfl) | (simp only [← hji8]; first | rfl | (simp [errW_none, errW_some] <;> rfl)) | (simp [*, errW_none, errW_some] <;> rfl), by repeat (first | (with_reducible first | exact HB.out | apply below_alloc | apply pw_below_drewN | apply below_drew1 | refine below_set ?_ GE202.out) | exact HB.out)⟩
    · rw [if_neg c7] at H
      exact absurd H (by simp)

end Go.Proofs.Ytkgeppbjfkhjcaa.XFnExactReachOf
