/- Printed by this repository's own program (wip/tools/xprint.py) for the law FnExactReachOf: Lean functions that say what the Go functions compute, and the proofs that the machine comes to just that; no condition beyond those in each statement. -/
import Derived.Deep.WholeRow
import Derived.Laws.CopyOwn
import Derived.Test.YtkgeppbjfkhjcaaXFnExactReachOfx0
import Derived.Test.YtkgeppbjfkhjcaaXFnExactReachOfx2
namespace Go.Proofs.Ytkgeppbjfkhjcaa.XFnExactReachOf
open Go.RowKit Go.Proofs.YtkgeppbjfkhjcaaW.PrintWords Go.Proofs.YtkgeppbjfkhjcaaW.PrintLast Go.Proofs.YtkgeppbjfkhjcaaW.PrintMore
attribute [local go_sem] max2_int min2_int max_two min_two max_three min_three max_four min_four   -- for this text's walks alone
set_option linter.unusedVariables false
set_option linter.unusedSimpArgs false

/-! ### l05Stretch_first -/
def spec_l05Stretch_first.f (l0 : List Int) (a1 : Int) (a2 : Int) (a3 : Int) (a4 : Int) : Option (List Int) := (spec_l05Stretch_at.f l0 a1 a2 a3 a4 (wrap64 (a1 - 2))).bind fun t1 => ((spec_l05Stretch_at.f l0 a1 a2 a3 a4 (wrap64 (a1 - 1))).bind fun t2 => (if 0 ≤ t1 then (if t1 < 64 then some (pl0_.set t1.toNat (IntKind.u64.wrap (2 ^ min (IntKind.u64.wrap t2).toNat 64))) else none) else none))
set_option maxHeartbeats 8000000 in
set_option maxRecDepth 100000 in
theorem spec_l05Stretch_first.calls {ad0_ : Addr} (A0 : Option Addr) (c0 : Nat) (l0 : List Int) (a1 : Int) (a2 : Int) (a3 : Int) (a4 : Int) (r : List Int) (w : World) (hr0 : Kd.C (Kd.int .i16) w A0 l0.length l0) (hc0 : l0.length ≤ c0) (hq0_ : w.cell? ad0_ = some (.slice A0 l0.length c0)) (hq1_ : w.cell? ⟨ad0_.block, ad0_.off + 1, none⟩ = some (.int .i64 a1)) (hq2_ : w.cell? ⟨ad0_.block, ad0_.off + 2, none⟩ = some (.int .i64 a2)) (hq3_ : w.cell? ⟨ad0_.block, ad0_.off + 3, none⟩ = some (.int .i64 a3)) (hq4_ : w.cell? ⟨ad0_.block, ad0_.off + 4, none⟩ = some (.int .i64 a4)) (h : spec_l05Stretch_first.f l0 a1 a2 a3 a4 = some r) :
    Calls Try.prog 70 #[.pointer (some ad0_)] w fun e w' => e = .returned (.agg (plA r)) ∧ Below w.heap.size w w' := by
  have hu69 := Try.underlying69
  have HR0 := Aside0.mk hr0
  have HC0 := Aside0.mk hc0
  have HQ0_ := Aside0.mk hq0_
  have HQ1_ := Aside0.mk hq1_
  have HQ2_ := Aside0.mk hq2_
  have HQ3_ := Aside0.mk hq3_
  have HQ4_ := Aside0.mk hq4_
  clear hr0 hc0 hq0_ hq1_ hq2_ hq3_ hq4_
  have HB := Aside0.mk (Below.refl w.heap.size w)
  unfold spec_l05Stretch_first.f at h
  obtain ⟨t1, A0_, h⟩ := Option.bind_eq_some_iff.mp h
  obtain ⟨t2, A1_, h⟩ := Option.bind_eq_some_iff.mp h
  have A1 := Aside0.mk A0_
  have A2 := Aside0.mk A1_
  clear A0_ A1_
  by_cases c1 : 0 ≤ t1
  · rw [if_pos c1] at h
    by_cases c2 : t1 < 64
    · rw [if_pos c2] at h
      obtain rfl := Option.some.inj h
      have D1 := Aside0.mk c1
      have D2 := Aside0.mk c2
      have e1 := eq_true c1
      have e2 : (t1 < 64) = True := eq_true c2
      have e3 : (0 ≤ IntKind.u64.wrap t2) = True := eq_true (by unfold IntKind.wrap; simp [IntKind.signed, IntKind.bits]; omega)
      clear h c1 c2
      go_enter Try.func70, Try.ntmps70
      go_upto_region 2 with (first | ((with_reducible refine gate_dst (N := 2) rfl ?_); refine box_event ?hg (N := 2) ?hd (cs := plA pl0_) (t := 69) ?hr ?_; (case hd => rfl); (case hg => rfl); (case hr => first | (go_simp; done) | (go_simp; rfl)); intro gb2 hg w3 hbox hb; have n0_ := Aside0.mk (below_step HB.out hb); have BK2 := Aside0.mk hbox; have GE2 := Aside0.mk (show w.heap.size ≤ gb2 from by rw [hg]; exact below_size HB.out); clear HB; have HB := n0_; clear n0_ hb hbox hg) | ((with_reducible refine gate_dst (N := 3) rfl ?_); refine box_event ?hg (N := 3) ?hd (cs := plA pl0_) (t := 69) ?hr ?_; (case hd => rfl); (case hg => rfl); (case hr => first | (go_simp; done) | (go_simp; rfl)); intro gb3 hg w4 hbox hb; have n0_ := Aside0.mk (below_step HB.out hb); have BK3 := Aside0.mk hbox; have GE3 := Aside0.mk (show w.heap.size ≤ gb3 from by rw [hg]; exact below_size HB.out); have n_BK2 := Aside0.mk (blk_below BK2.out hb); have N2_3 := Aside0.mk (show gb2 ≠ gb3 from by rw [hg]; exact Nat.ne_of_lt (blk_lt BK2.out)); clear HB BK2; have HB := n0_; have BK2 := n_BK2; clear n0_ n_BK2 hb hbox hg) | ((with_reducible refine gate_store (t := 69) (p := 3) rfl ?_); refine pl_store (p := 3) (v := ?vv3) (g := gb3) (x := pl0_) ?hg ?ho ?hn ?hp ?hv BK3.out (plA_size _) (by kernel_rfl) ?_; (case ho => rfl); (case hg => rfl); (case hn => rfl); (case hp => rfl); (case hv => rfl); intro w5 hw; have n0_ := Aside0.mk (show Below w.heap.size w w5 from by rw [hw]; exact below_setP HB.out GE3.out); have n1_ := Aside0.mk (show w5.heap[gb3]? = some (.cells (plA (pl0_)) 69 (0, 0)) from by rw [hw]; exact blk_putP BK3.out _); have n_BK2 := Aside0.mk (show w5.heap[gb2]? = some (.cells (plA pl0_) 69 (0, 0)) from by rw [hw]; exact blk_farP BK2.out N2_3.out _); clear HB BK3 BK2; have HB := n0_; have BK3 := n1_; have BK2 := n_BK2; clear n0_ n1_ n_BK2 hw))
      have n0_ := Aside0.mk (blk_drew BK2.out)
      have n1_ := Aside0.mk (blk_drew BK3.out)
      have n2_ := Aside0.mk (HB.out.drew)
      clear BK2 BK3 HB
      have BK2 := n0_
      have BK3 := n1_
      have HB := n2_
      clear n0_ n1_ n2_
      refine start_ (n := 18) (S := fun w' => w'.cell? ⟨ad0_.block, ad0_.off + 1, none⟩ = some (.int .i64 a1) ∧ w'.cell? ⟨gb3, t1.toNat, none⟩ = some (.int .u64 (rd pl0_ t1))) (ds := [17]) #[false, false, false, false, false, false, false, false, false, false, false, false, false, false, false, false, false, false] (by kernel_rfl) rfl rfl ⟨((HB.out).cell (World.block_lt_of_cell? w _ HQ1_.out)).trans HQ1_.out, (blk_cell BK3.out t1.toNat).trans (by rw [plA_get _ _ (by have := D1.out; have := D2.out; omega), Int.toNat_of_nonneg D1.out])⟩ (fun hHeld => ?_)
      generalize w5.drew = wd at BK2 BK3 HB hHeld ⊢
      refine pure_ (i := 0) (N := some 5) (v := ?_) (a' := ?_) #[true, false, false, false, false, false, false, false, false, false, false, false, false, false, false, false, false, false] rfl rfl (by kernel_rfl) (fun _ _ _ h => h) (Or.inl ⟨by rfl, ?_⟩) ?_ ?_
      rotate_left
      · intro w'
        go_simp
        first | done | with_reducible rfl | rfl
      rotate_left
      · simp only [Act.put, List.setIfInBounds_toArray, List.set_cons_zero, List.set_cons_succ, i64_w, i32_w]
        rfl
      refine pure_ (i := 1) (N := some 6) (v := ?_) (a' := ?_) #[true, true, false, false, false, false, false, false, false, false, false, false, false, false, false, false, false, false] rfl rfl (by kernel_rfl) (fun _ _ _ h => h) (Or.inl ⟨by rfl, ?_⟩) ?_ ?_
      rotate_left
      · intro w'
        go_simp
        first | done | with_reducible rfl | rfl
      rotate_left
      · simp only [Act.put, List.setIfInBounds_toArray, List.set_cons_zero, List.set_cons_succ, i64_w, i32_w]
        rfl
      refine pure_ (i := 2) (N := some 7) (v := ?_) (a' := ?_) #[true, true, true, false, false, false, false, false, false, false, false, false, false, false, false, false, false, false] rfl rfl (by kernel_rfl) (fun _ _ _ h => h) (Or.inl ⟨by rfl, ?_⟩) ?_ ?_
      rotate_left
      · intro w'
        go_simp
        first | done | with_reducible rfl | rfl
      rotate_left
      · simp only [Act.put, List.setIfInBounds_toArray, List.set_cons_zero, List.set_cons_succ, i64_w, i32_w]
        rfl
      refine pure_ (i := 3) (N := some 8) (v := ?_) (a' := ?_) #[true, true, true, true, false, false, false, false, false, false, false, false, false, false, false, false, false, false] rfl rfl (by kernel_rfl) (fun _ _ _ h => h) (Or.inl ⟨by rfl, ?_⟩) ?_ ?_
      rotate_left
      · intro w'
        go_simp
        first | done | with_reducible rfl | rfl
      rotate_left
      · simp only [Act.put, List.setIfInBounds_toArray, List.set_cons_zero, List.set_cons_succ, i64_w, i32_w]
        rfl
      refine take_ (i := 4) (N := some 9) (v := ?_) (a' := ?_) #[true, true, true, true, true, false, false, false, false, false, false, false, false, false, false, false, false, false] rfl rfl (by kernel_rfl) (fun _ _ _ h => h) (Or.inl ⟨by rfl, ?_⟩) hHeld ?_ ?_
      rotate_left
      · rintro w' ⟨s0, s1⟩
        go_simp
        first | done | with_reducible rfl | rfl
      rotate_left
      · simp only [Act.put, List.setIfInBounds_toArray, List.set_cons_zero, List.set_cons_succ, i64_w, i32_w]
        rfl
      refine pure_ (i := 5) (N := some 10) (v := ?_) (a' := ?_) #[true, true, true, true, true, true, false, false, false, false, false, false, false, false, false, false, false, false] rfl rfl (by kernel_rfl) (fun _ _ _ h => h) (Or.inl ⟨by rfl, ?_⟩) ?_ ?_
      rotate_left
      · intro w'
        go_simp
        first | done | with_reducible rfl | rfl
      rotate_left
      · simp only [Act.put, List.setIfInBounds_toArray, List.set_cons_zero, List.set_cons_succ, i64_w, i32_w]
        rfl
      refine pure_ (i := 7) (N := some 12) (v := ?_) (a' := ?_) #[true, true, true, true, true, true, false, true, false, false, false, false, false, false, false, false, false, false] rfl rfl (by kernel_rfl) (fun _ _ _ h => h) (Or.inl ⟨by rfl, ?_⟩) ?_ ?_
      rotate_left
      · intro w'
        go_simp
        first | done | with_reducible rfl | rfl
      rotate_left
      · simp only [Act.put, List.setIfInBounds_toArray, List.set_cons_zero, List.set_cons_succ, i64_w, i32_w]
        rfl
      refine pure_ (i := 8) (N := some 13) (v := ?_) (a' := ?_) #[true, true, true, true, true, true, false, true, true, false, false, false, false, false, false, false, false, false] rfl rfl (by kernel_rfl) (fun _ _ _ h => h) (Or.inl ⟨by rfl, ?_⟩) ?_ ?_
      rotate_left
      · intro w'
        go_simp
        first | done | with_reducible rfl | rfl
      rotate_left
      · simp only [Act.put, List.setIfInBounds_toArray, List.set_cons_zero, List.set_cons_succ, i64_w, i32_w]
        rfl
      refine pure_ (i := 9) (N := some 14) (v := ?_) (a' := ?_) #[true, true, true, true, true, true, false, true, true, true, false, false, false, false, false, false, false, false] rfl rfl (by kernel_rfl) (fun _ _ _ h => h) (Or.inl ⟨by rfl, ?_⟩) ?_ ?_
      rotate_left
      · intro w'
        go_simp
        first | done | with_reducible rfl | rfl
      rotate_left
      · simp only [Act.put, List.setIfInBounds_toArray, List.set_cons_zero, List.set_cons_succ, i64_w, i32_w]
        rfl
      refine pure_ (i := 10) (N := some 15) (v := ?_) (a' := ?_) #[true, true, true, true, true, true, false, true, true, true, true, false, false, false, false, false, false, false] rfl rfl (by kernel_rfl) (fun _ _ _ h => h) (Or.inl ⟨by rfl, ?_⟩) ?_ ?_
      rotate_left
      · intro w'
        go_simp
        first | done | with_reducible rfl | rfl
      rotate_left
      · simp only [Act.put, List.setIfInBounds_toArray, List.set_cons_zero, List.set_cons_succ, i64_w, i32_w]
        rfl
      refine take_ (i := 11) (N := some 16) (v := ?_) (a' := ?_) #[true, true, true, true, true, true, false, true, true, true, true, true, false, false, false, false, false, false] rfl rfl (by kernel_rfl) (fun _ _ _ h => h) (Or.inl ⟨by rfl, ?_⟩) hHeld ?_ ?_
      rotate_left
      · rintro w' ⟨s0, s1⟩
        go_simp
        first | done | with_reducible rfl | rfl
      rotate_left
      · simp only [Act.put, List.setIfInBounds_toArray, List.set_cons_zero, List.set_cons_succ, i64_w, i32_w]
        rfl
      refine pure_ (i := 12) (N := some 17) (v := ?_) (a' := ?_) #[true, true, true, true, true, true, false, true, true, true, true, true, true, false, false, false, false, false] rfl rfl (by kernel_rfl) (fun _ _ _ h => h) (Or.inl ⟨by rfl, ?_⟩) ?_ ?_
      rotate_left
      · intro w'
        go_simp
        first | done | with_reducible rfl | rfl
      rotate_left
      · simp only [Act.put, List.setIfInBounds_toArray, List.set_cons_zero, List.set_cons_succ, i64_w, i32_w]
        rfl
      refine one_ (i := 6) (N := some 11) #[true, true, true, true, true, true, true, true, true, true, true, true, true, false, false, false, false, false] rfl rfl (by kernel_rfl) (by decide) (fun K hK => ?_)
      refine goes_ Try.func33 (by kernel_rfl) rfl #[.pointer (some ad0_), .int .i64 (wrap64 (a1 - 2))] (by rfl) rfl rfl (by (try simp only [List.map_toArray, List.map_cons, List.map_nil]); first | done | rfl) ?_
      with_reducible refine (spec_l05Stretch_at.calls A0 c0 l0 a1 a2 a3 a4 (wrap64 (a1 - 2)) t1 _ (Kd.C_below HR0.out (HB.out)) HC0.out (((HB.out).cell (World.block_lt_of_cell? w _ HQ0_.out)).trans HQ0_.out) (((HB.out).cell (World.block_lt_of_cell? w _ HQ1_.out)).trans HQ1_.out) (((HB.out).cell (World.block_lt_of_cell? w _ HQ2_.out)).trans HQ2_.out) (((HB.out).cell (World.block_lt_of_cell? w _ HQ3_.out)).trans HQ3_.out) (((HB.out).cell (World.block_lt_of_cell? w _ HQ4_.out)).trans HQ4_.out) A1.out).mono ?_
      rintro e w' ⟨rfl, ⟨nd, rfl⟩⟩
      refine ⟨_, rfl, ?_⟩
      have n0_ := Aside0.mk (show (wd.drewN nd).heap[gb2]? = some (.cells (plA pl0_) 69 (0, 0)) from BK2.out)
      have n1_ := Aside0.mk (show (wd.drewN nd).heap[gb3]? = some (.cells (plA pl0_) 69 (0, 0)) from BK3.out)
      have n2_ := Aside0.mk (show Below w.heap.size w (wd.drewN nd) from by apply pw_below_drewN; exact HB.out)
      clear BK2 BK3 HB
      have BK2 := n0_
      have BK3 := n1_
      have HB := n2_
      clear n0_ n1_ n2_
      refine hK.out _ _ ⟨((HB.out).cell (World.block_lt_of_cell? w _ HQ1_.out)).trans HQ1_.out, (blk_cell BK3.out t1.toNat).trans (by rw [plA_get _ _ (by have := D1.out; have := D2.out; omega), Int.toNat_of_nonneg D1.out])⟩ (fun hHeld => ?_)
      clear hK K
      generalize wd.drewN nd = we at BK2 BK3 HB hHeld ⊢
      refine norm_ (a' := ?_) ?_ ?_
      rotate_left
      · show Act.put _ (some 11) _ = _
        simp only [Act.put, List.setIfInBounds_toArray, List.set_cons_zero, List.set_cons_succ, i64_w, i32_w]
        rfl
      refine one_ (i := 13) (N := some 18) #[true, true, true, true, true, true, true, true, true, true, true, true, true, true, false, false, false, false] rfl rfl (by kernel_rfl) (by decide) (fun K hK => ?_)
      refine goes_ Try.func33 (by kernel_rfl) rfl #[.pointer (some ad0_), .int .i64 (wrap64 (a1 - 1))] (by rfl) rfl rfl (by (try simp only [List.map_toArray, List.map_cons, List.map_nil]); first | done | rfl) ?_
      with_reducible refine (spec_l05Stretch_at.calls A0 c0 l0 a1 a2 a3 a4 (wrap64 (a1 - 1)) t2 _ (Kd.C_below HR0.out (HB.out)) HC0.out (((HB.out).cell (World.block_lt_of_cell? w _ HQ0_.out)).trans HQ0_.out) (((HB.out).cell (World.block_lt_of_cell? w _ HQ1_.out)).trans HQ1_.out) (((HB.out).cell (World.block_lt_of_cell? w _ HQ2_.out)).trans HQ2_.out) (((HB.out).cell (World.block_lt_of_cell? w _ HQ3_.out)).trans HQ3_.out) (((HB.out).cell (World.block_lt_of_cell? w _ HQ4_.out)).trans HQ4_.out) A2.out).mono ?_
      rintro e w' ⟨rfl, ⟨nd, rfl⟩⟩
      refine ⟨_, rfl, ?_⟩
      have n0_ := Aside0.mk (show (we.drewN nd).heap[gb2]? = some (.cells (plA pl0_) 69 (0, 0)) from BK2.out)
      have n1_ := Aside0.mk (show (we.drewN nd).heap[gb3]? = some (.cells (plA pl0_) 69 (0, 0)) from BK3.out)
      have n2_ := Aside0.mk (show Below w.heap.size w (we.drewN nd) from by apply pw_below_drewN; exact HB.out)
      clear BK2 BK3 HB
      have BK2 := n0_
      have BK3 := n1_
      have HB := n2_
      clear n0_ n1_ n2_
      refine hK.out _ _ ⟨((HB.out).cell (World.block_lt_of_cell? w _ HQ1_.out)).trans HQ1_.out, (blk_cell BK3.out t1.toNat).trans (by rw [plA_get _ _ (by have := D1.out; have := D2.out; omega), Int.toNat_of_nonneg D1.out])⟩ (fun hHeld => ?_)
      clear hK K
      generalize we.drewN nd = wf at BK2 BK3 HB hHeld ⊢
      refine norm_ (a' := ?_) ?_ ?_
      rotate_left
      · show Act.put _ (some 18) _ = _
        simp only [Act.put, List.setIfInBounds_toArray, List.set_cons_zero, List.set_cons_succ, i64_w, i32_w]
        rfl
      refine pure_ (i := 14) (N := some 19) (v := ?_) (a' := ?_) #[true, true, true, true, true, true, true, true, true, true, true, true, true, true, true, false, false, false] rfl rfl (by kernel_rfl) (fun _ _ _ h => h) (Or.inl ⟨by rfl, ?_⟩) ?_ ?_
      rotate_left
      · intro w'
        go_simp
        first | done | with_reducible rfl | rfl
      rotate_left
      · simp only [Act.put, List.setIfInBounds_toArray, List.set_cons_zero, List.set_cons_succ, i64_w, i32_w]
        rfl
      refine pure_ (i := 15) (N := some 20) (v := ?_) (a' := ?_) #[true, true, true, true, true, true, true, true, true, true, true, true, true, true, true, true, false, false] rfl rfl (by kernel_rfl) (fun _ _ _ h => h) (Or.inl ⟨by rfl, ?_⟩) ?_ ?_
      rotate_left
      · intro w'
        go_simp
        first | done | with_reducible rfl | rfl
      rotate_left
      · simp only [Act.put, List.setIfInBounds_toArray, List.set_cons_zero, List.set_cons_succ, i64_w, i32_w]
        rfl
      refine pure_ (i := 16) (N := some 21) (v := ?_) (a' := ?_) #[true, true, true, true, true, true, true, true, true, true, true, true, true, true, true, true, true, false] rfl rfl (by kernel_rfl) (fun _ _ _ h => h) (Or.inl ⟨by rfl, ?_⟩) ?_ ?_
      rotate_left
      · intro w'
        go_simp
        first | done | with_reducible rfl | rfl
      rotate_left
      · simp only [Act.put, List.setIfInBounds_toArray, List.set_cons_zero, List.set_cons_succ, i64_w, i32_w]
        rfl
      have hcell := hHeld.2
      have hfro : wf.frozen? ⟨gb3, t1.toNat, none⟩ = false := blk_frozen BK3.out _
      refine last_ (i := 17) (N := none) #[true, true, true, true, true, true, true, true, true, true, true, true, true, true, true, true, true, true] rfl rfl (by kernel_rfl) (by decide) (fun K hK => ?_)
      refine skip_ (w1 := ?_) (by rfl) rfl ?_ ?_
      rotate_left
      · go_simp
        first | done | rfl
      refine hK.out _ _ ?_
      clear hK K
      refine done_ (by kernel_rfl) ?_
      have n0_ := Aside0.mk (blk_far BK2.out N2_3.out (Value.int .u64 (IntKind.u64.wrap (2 ^ min (IntKind.u64.wrap t2).toNat 64))) (p := ⟨gb3, t1.toNat, none⟩))
      have n1_ := Aside0.mk (blk_set BK3.out t1.toNat (Value.int .u64 (IntKind.u64.wrap (2 ^ min (IntKind.u64.wrap t2).toNat 64))))
      rw [plA_set pl0_ (by decide) _ (by have := D1.out; have := D2.out; omega)] at n1_
      have n2_ := Aside0.mk (HB.out.setCell (p := ⟨gb3, t1.toNat, none⟩) GE3.out (Value.int .u64 (IntKind.u64.wrap (2 ^ min (IntKind.u64.wrap t2).toNat 64))))
      clear BK2 BK3 HB hcell hHeld hfro
      have BK2 := n0_
      have BK3 := n1_
      have HB := n2_
      clear n0_ n1_ n2_
      generalize (wf.setCell ⟨gb3, t1.toNat, none⟩ (Value.int .u64 (IntKind.u64.wrap (2 ^ min (IntKind.u64.wrap t2).toNat 64)))) = wz at BK2 BK3 HB ⊢
      go_upto_region 3 with (fail)
      refine wp_region_lit ?_
      refine pl_load (p := 3) (g := gb3) (x := pl0_.set t1.toNat (IntKind.u64.wrap (2 ^ min (IntKind.u64.wrap t2).toNat 64))) ?hg3 ?ho3 ?hp3 BK3.out Try.underlying69 (by kernel_rfl) ?_
      (case ho3 => rfl)
      (case hg3 => rfl)
      (case hp3 => rfl)
      refine pl_store (p := 2) (v := ?v2) (g := gb2) (x := pl0_.set t1.toNat (IntKind.u64.wrap (2 ^ min (IntKind.u64.wrap t2).toNat 64))) ?hg2 ?ho2 ?hn2 ?hp2 ?hv2 BK2.out (plA_size _) (by kernel_rfl) ?_
      (case ho2 => rfl)
      (case hg2 => rfl)
      (case hn2 => rfl)
      (case hp2 => rfl)
      (case hv2 => rfl)
      intro w9 hw
      have RB := Aside0.mk (show w9.heap[gb2]? = some (.cells (plA (pl0_.set t1.toNat (IntKind.u64.wrap (2 ^ min (IntKind.u64.wrap t2).toNat 64)))) 69 (0, 0)) from by rw [hw]; exact blk_putP BK2.out _)
      have n0_ := Aside0.mk (show Below w.heap.size w w9 from by rw [hw]; exact below_setP HB.out GE2.out)
      clear HB hw
      (try simp only [Act.put, List.setIfInBounds_toArray, List.set_cons_zero, List.set_cons_succ])
      go_wp2
      refine bodyPost_ret (results_single rfl (Vals.cell gb2 69 (plA (pl0_.set t1.toNat (IntKind.u64.wrap (2 ^ min (IntKind.u64.wrap t2).toNat 64)))) (0, 0) _ rfl RB.out Try.underlying69 rfl (by kernel_rfl) Vals.nil)) rfl ?_
      exact ⟨rfl, n0_.out⟩
    · rw [if_neg c2] at h; cases h
  · rw [if_neg c1] at h; cases h

/-! ### l05Stretch_reach -/
mutual
def spec_l05Stretch_reach.l0 : Nat → List Int → Int → Int → Int → Int → List (S69) → Int → Option (List (S69))
  | 0, _, _, _, _, _, _, _ => none
  | k + 1, l0, a1, a2, a3, a4, out, n => if n ≤ wrap64 (a2 + 2) then (if 0 ≤ wrap64 (n - 1) then (if wrap64 (n - 1) < (out.length : Int) then (spec_l05Stretch_reach.l1 k l0 a1 a2 a3 a4 out n 0 pl0_) else (none)) else (none)) else (some out)
def spec_l05Stretch_reach.l1 : Nat → List Int → Int → Int → Int → Int → List (S69) → Int → Int → List Int → Option (List (S69))
  | 0, _, _, _, _, _, _, _, _, _ => none
  | k + 1, l0, a1, a2, a3, a4, out, n, x, g => if x < 64 then (spec_l05Stretch_reach.l2 k l0 a1 a2 a3 a4 out n x 0 g) else (if out.length < 274877906944 then (spec_l05Stretch_reach.l0 k l0 a1 a2 a3 a4 (out ++ [(⟨g⟩ : S69)]) (wrap64 (n + 1))) else (none))
def spec_l05Stretch_reach.l2 : Nat → List Int → Int → Int → Int → Int → List (S69) → Int → Int → Int → List Int → Option (List (S69))
  | 0, _, _, _, _, _, _, _, _, _, _ => none
  | k + 1, l0, a1, a2, a3, a4, out, n, x, y, g => if y < 64 then (if 0 ≤ x then (if x < 64 then (if 0 ≤ y then (if (Go.bits .and .u64 (shr .u64 (rd (rd_T69 out (wrap64 (n - 1))).f0 x) (IntKind.u64.wrap y)) 1) = 1 then (if g.length = 64 then ((spec_l05Stretch_may.f l0 a1 a2 a3 a4 x y n).bind fun t => (spec_l05Stretch_reach.l2 k l0 a1 a2 a3 a4 out n x (wrap64 (y + 1)) (g.set y.toNat (Go.bits .or .u64 (rd g y) t)))) else (none)) else (spec_l05Stretch_reach.l2 k l0 a1 a2 a3 a4 out n x (wrap64 (y + 1)) g)) else (none)) else (none)) else (none)) else (spec_l05Stretch_reach.l1 k l0 a1 a2 a3 a4 out n (wrap64 (x + 1)) g)
end
def spec_l05Stretch_reach.f (k : Nat) (l0 : List Int) (a1 : Int) (a2 : Int) (a3 : Int) (a4 : Int) : Option (List (S69)) := (spec_l05Stretch_first.f l0 a1 a2 a3 a4).bind fun g => (spec_l05Stretch_reach.l0 k l0 a1 a2 a3 a4 [(⟨g⟩ : S69)] 1)
theorem spec_l05Stretch_reach.mono_l : ∀ k, (∀ y0 y1 y2 y3 y4 y5 y6, LeO (spec_l05Stretch_reach.l0 k y0 y1 y2 y3 y4 y5 y6) (spec_l05Stretch_reach.l0 (k + 1) y0 y1 y2 y3 y4 y5 y6)) ∧ (∀ y0 y1 y2 y3 y4 y5 y6 y7 y8, LeO (spec_l05Stretch_reach.l1 k y0 y1 y2 y3 y4 y5 y6 y7 y8) (spec_l05Stretch_reach.l1 (k + 1) y0 y1 y2 y3 y4 y5 y6 y7 y8)) ∧ (∀ y0 y1 y2 y3 y4 y5 y6 y7 y8 y9, LeO (spec_l05Stretch_reach.l2 k y0 y1 y2 y3 y4 y5 y6 y7 y8 y9) (spec_l05Stretch_reach.l2 (k + 1) y0 y1 y2 y3 y4 y5 y6 y7 y8 y9))
  | 0 => ⟨fun _ _ _ _ _ _ _ r h => by simp [spec_l05Stretch_reach.l0] at h, fun _ _ _ _ _ _ _ _ _ r h => by simp [spec_l05Stretch_reach.l1] at h, fun _ _ _ _ _ _ _ _ _ _ r h => by simp [spec_l05Stretch_reach.l2] at h⟩
  | k + 1 => by
    obtain ⟨ih0, ih1, ih2⟩ := spec_l05Stretch_reach.mono_l k
    refine ⟨?_, ?_, ?_⟩
    · intro y0 y1 y2 y3 y4 y5 y6
      unfold spec_l05Stretch_reach.l0
      repeat' first
      | (with_reducible exact ih0 _ _ _ _ _ _ _)
      | (with_reducible exact ih1 _ _ _ _ _ _ _ _ _)
      | (with_reducible exact ih2 _ _ _ _ _ _ _ _ _ _)
      | (with_reducible exact LeO.refl _)
      | (with_reducible exact LeO.none _)
      | (with_reducible refine LeO.ite ?_ ?_)
      | (with_reducible refine LeO.bind ?_ (fun _ => ?_))
    · intro y0 y1 y2 y3 y4 y5 y6 y7 y8
      unfold spec_l05Stretch_reach.l1
      repeat' first
      | (with_reducible exact ih0 _ _ _ _ _ _ _)
      | (with_reducible exact ih1 _ _ _ _ _ _ _ _ _)
      | (with_reducible exact ih2 _ _ _ _ _ _ _ _ _ _)
      | (with_reducible exact LeO.refl _)
      | (with_reducible exact LeO.none _)
      | (with_reducible refine LeO.ite ?_ ?_)
      | (with_reducible refine LeO.bind ?_ (fun _ => ?_))
    · intro y0 y1 y2 y3 y4 y5 y6 y7 y8 y9
      unfold spec_l05Stretch_reach.l2
      repeat' first
      | (with_reducible exact ih0 _ _ _ _ _ _ _)
      | (with_reducible exact ih1 _ _ _ _ _ _ _ _ _)
      | (with_reducible exact ih2 _ _ _ _ _ _ _ _ _ _)
      | (with_reducible exact LeO.refl _)
      | (with_reducible exact LeO.none _)
      | (with_reducible refine LeO.ite ?_ ?_)
      | (with_reducible refine LeO.bind ?_ (fun _ => ?_))
theorem spec_l05Stretch_reach.mono : ∀ a0 a1 a2 a3 a4 k, LeO (spec_l05Stretch_reach.f k a0 a1 a2 a3 a4) (spec_l05Stretch_reach.f (k + 1) a0 a1 a2 a3 a4) := by
  intro a0 a1 a2 a3 a4 k
  unfold spec_l05Stretch_reach.f
  exact LeO.bind (LeO.refl _) (fun _ => (spec_l05Stretch_reach.mono_l k).1 _ _ _ _ _ _ _)
set_option maxHeartbeats 16000000 in
set_option maxRecDepth 100000 in
theorem spec_l05Stretch_reach.calls {ad0_ : Addr} (k : Nat) (A0 : Option Addr) (c0 : Nat) (l0 : List Int) (a1 : Int) (a2 : Int) (a3 : Int) (a4 : Int) (r : List (S69)) (w : World) (hr0 : Kd.C (Kd.int .i16) w A0 l0.length l0) (hc0 : l0.length ≤ c0) (hq0_ : w.cell? ad0_ = some (.slice A0 l0.length c0)) (hq1_ : w.cell? ⟨ad0_.block, ad0_.off + 1, none⟩ = some (.int .i64 a1)) (hq2_ : w.cell? ⟨ad0_.block, ad0_.off + 2, none⟩ = some (.int .i64 a2)) (hq3_ : w.cell? ⟨ad0_.block, ad0_.off + 3, none⟩ = some (.int .i64 a3)) (hq4_ : w.cell? ⟨ad0_.block, ad0_.off + 4, none⟩ = some (.int .i64 a4)) (h : spec_l05Stretch_reach.f k l0 a1 a2 a3 a4 = some r) :
    Calls Try.prog 43 #[.pointer (some ad0_)] w fun e w' => ∃ v0_ : Value, e = .returned (v0_) ∧ Kd.R k69 69 w' w.heap.size (fun _ => True) v0_ r ∧ Below w.heap.size w w' := by
  have hu69 := Try.underlying69
  have HR0 := Aside0.mk hr0
  have HC0 := Aside0.mk hc0
  have HQ0_ := Aside0.mk hq0_
  have HQ1_ := Aside0.mk hq1_
  have HQ2_ := Aside0.mk hq2_
  have HQ3_ := Aside0.mk hq3_
  have HQ4_ := Aside0.mk hq4_
  clear hr0 hc0 hq0_ hq1_ hq2_ hq3_ hq4_
  have HB := Aside0.mk (Below.refl w.heap.size w)
  unfold spec_l05Stretch_reach.f at h
  obtain ⟨g0, A0_, h⟩ := Option.bind_eq_some_iff.mp h
  have A1 := Aside0.mk A0_
  have H' := Aside0.mk h
  clear h A0_
  go_enter Try.func43, Try.ntmps43
  go_wp2_with (first | ((with_reducible refine gate_callee (f := 70) rfl ?_); refine goesL_ (some 10) rfl rfl Try.func70 (by kernel_rfl) rfl #[.pointer (some ad0_)] rfl (by (try simp only [List.map_toArray, List.map_cons, List.map_nil]); first | done | rfl) ?_; (with_reducible refine (spec_l05Stretch_first.calls A0 c0 l0 a1 a2 a3 a4 g0 _ HR0.out HC0.out HQ0_.out HQ1_.out HQ2_.out HQ3_.out HQ4_.out A1.out).mono ?_); rintro e w3 ⟨rfl, hb⟩; refine ⟨_, rfl, ?_⟩; have n0_ := Aside0.mk (below_step HB.out hb); clear HB hb; have HB := n0_; clear n0_) | ((with_reducible refine gate_dst (N := 11) rfl ?_); refine Kd.R_lit k69 _ 69 ?lhg (N := 11) ?lhd (xs := ([(⟨g0⟩ : S69)] : List (S69))) (inner := (plA g0).toList) (ok := fun _ => True) (okp := fun _ => True) ?lhr ?lhp (fun _ hk => hk) trivial (Below.refl _ _) (Nat.le_refl _) (by simp) ?_; (case lhd => rfl); (case lhg => rfl); (case lhr => (refine pl_litRun ?_ Try.underlying41 pinfo69; exact ⟨_, rfl, rfl⟩)); (case lhp => exact (Reps.front (show Kd.M k69 _ _ _ (⟨g0⟩ : S69) (plA g0).toList from (k69_mkM _ _ _ (⟨g0⟩ : S69) )) (((Array.length_toList).trans (plA_size _)).trans kPl_sz.symm) (Reps.none _ _) (List.append_nil _).symm)); intro v11 w4 ho hb hg_ hnew_; clear hg_ hnew_; have n0_ := Aside0.mk (Kd.R_lower ho (below_size HB.out)); have n1_ := Aside0.mk (below_step HB.out hb); clear HB; have HO := n0_; have HB := n1_; clear n0_ n1_ hb ho))
  go_loopg [3, 4] k (fun kq v3 v4 w' => ∃ (out : List (S69)) (n : Int), v4 = .int .i64 n ∧ Aside0 (spec_l05Stretch_reach.l0 kq l0 a1 a2 a3 a4 out n = some r) ∧ Aside0 (kq ≤ k) ∧ Aside0 (Kd.R k69 69 w' w.heap.size (fun _ => True) v3 out) ∧ Aside0 (Below w.heap.size w w'))
  case atStart => exact ⟨_, 1, rfl, H', ⟨Nat.le_refl _⟩, HO, HB⟩
  case round =>
    clear H' HB HO
    obtain ⟨out, n, rfl, HA, HK1, HO, HB⟩ := hrel
    cases gk with
    | zero => exact absurd HA.out (by simp [spec_l05Stretch_reach.l0])
    | succ k1 =>
      have H := HA.out
      clear HA
      simp only [spec_l05Stretch_reach.l0] at H
      have hq2 := ((HB.out).cell (World.block_lt_of_cell? w _ HQ2_.out)).trans HQ2_.out
      by_cases c1 : n ≤ wrap64 (a2 + 2)
      · rw [if_pos c1] at H
        have c1b0 : decide (n ≤ wrap64 (a2 + 2)) = true := decide_eq_true c1
        obtain ⟨m, hm⟩ : ∃ j_ : Int, wrap64 (n - 1) = j_ := ⟨_, rfl⟩
        rw [hm] at H
        have hmw : (IntKind.i64.wrap (n - 1)) = m := (i64_w _).trans hm
        by_cases c2 : 0 ≤ m
        · rw [if_pos c2] at H
          by_cases c3 : m < (out.length : Int)
          · rw [if_pos c3] at H
            obtain ⟨go, co, eo, gb, gl, cl, HG⟩ := Kd.R_form HO.out (by omega)
            subst eo
            have M2 := Aside0.mk c2
            have M3 := Aside0.mk c3
            have HM := Aside0.mk hm
            have e2 := eq_true c2
            have e3 := eq_true c3
            have H' := Aside0.mk H
            clear H c1 c2 c3 gb gl cl HG
            go_wp2_with (first | ((with_reducible refine gate_dst (N := 5) rfl ?_); refine box_event ?hg (N := 5) ?hd (cs := plA pl0_) (t := 69) ?hr ?_; (case hd => rfl); (case hg => rfl); (case hr => first | (go_simp; done) | (go_simp; rfl)); intro gb5 hg w5 hbox hb; have n0_ := Aside0.mk (below_step HB.out hb); have BK5 := Aside0.mk hbox; have GE5 := Aside0.mk (show w.heap.size ≤ gb5 from by rw [hg]; exact below_size HB.out); have n1_ := Aside0.mk (Kd.R_below (Kd.R_elderB HO.out gb5 (by rw [hg]; exact Nat.le_refl _)) hb); clear HB HO; have HB := n0_; have HO := n1_; clear n0_ n1_ hb hbox hg) | ((with_reducible refine gate_store (t := 69) (p := 5) rfl ?_); refine pl_store (p := 5) (v := ?v5) (g := gb5) (x := pl0_) ?sg ?so ?sn ?sp ?sv BK5.out (plA_size _) (by kernel_rfl) ?_; (case so => rfl); (case sg => rfl); (case sn => rfl); (case sp => rfl); (case sv => rfl); intro w6 hw; have n0_ := Aside0.mk (show Below w.heap.size w w6 from by rw [hw]; exact below_setP HB.out GE5.out); have n1_ := Aside0.mk (show w6.heap[gb5]? = some (.cells (plA pl0_) 69 (0, 0)) from by rw [hw]; exact blk_putP BK5.out _); have n2_ := Aside0.mk (show Kd.R k69 69 w6 w.heap.size (fun k_ => True ∧ k_ ≠ gb5) (.slice (some ⟨go, 0, none⟩) out.length co) out from by rw [hw]; exact Kd.R_step HO.out (fun k_ ho_ _ => setRow_other w5 gb5 k_ _ ho_.2)); clear HB BK5 HO; have HB := n0_; have BK5 := n1_; have HO := n2_; clear n0_ n1_ n2_ hw))
            clear hq2
            go_loopg [7] k1 (fun kq v7 w' => ∃ (x1 : Int) (g1 : List Int), v7 = .int .i64 x1 ∧ Aside0 (spec_l05Stretch_reach.l1 kq l0 a1 a2 a3 a4 out n x1 g1 = some r) ∧ Aside0 (kq ≤ k1) ∧ Aside0 (w'.heap[gb5]? = some (.cells (plA g1) 69 (0, 0))) ∧ Aside0 (Kd.R k69 69 w' w.heap.size (fun k_ => True ∧ k_ ≠ gb5) (.slice (some ⟨go, 0, none⟩) out.length co) out) ∧ Aside0 (Below w.heap.size w w'))
            case atStart => exact ⟨0, pl0_, (by first | rfl | (simp; done)), H', ⟨Nat.le_refl _⟩, BK5, HO, HB⟩
            case round =>
              clear H' HB HO BK5
              obtain ⟨x1, g1, rfl, HA, HK2, BK5, HO, HB⟩ := hrel
              cases gk with
              | zero => exact absurd HA.out (by simp [spec_l05Stretch_reach.l1])
              | succ k2 =>
                have H := HA.out
                clear HA
                simp only [spec_l05Stretch_reach.l1] at H
                by_cases d1 : x1 < 64
                · rw [if_pos d1] at H
                  have d1b0 : decide (x1 < 64) = true := decide_eq_true d1
                  have H' := Aside0.mk H
                  clear H d1
                  go_wp2
                  go_loopg [8] k2 (fun kq v8 w' => ∃ (y1 : Int) (g2 : List Int), v8 = .int .i64 y1 ∧ Aside0 (spec_l05Stretch_reach.l2 kq l0 a1 a2 a3 a4 out n x1 y1 g2 = some r) ∧ Aside0 (kq ≤ k2) ∧ Aside0 (w'.heap[gb5]? = some (.cells (plA g2) 69 (0, 0))) ∧ Aside0 (Kd.R k69 69 w' w.heap.size (fun k_ => True ∧ k_ ≠ gb5) (.slice (some ⟨go, 0, none⟩) out.length co) out) ∧ Aside0 (Below w.heap.size w w'))
                  case atStart => exact ⟨0, g1, (by first | rfl | (simp; done)), H', ⟨Nat.le_refl _⟩, BK5, HO, HB⟩
                  case round =>
                    clear H' HB HO BK5
                    obtain ⟨y1, g2, rfl, HA, HK3, BK5, HO, HB⟩ := hrel
                    cases gk with
                    | zero => exact absurd HA.out (by simp [spec_l05Stretch_reach.l2])
                    | succ k3 =>
                      have H := HA.out
                      clear HA
                      simp only [spec_l05Stretch_reach.l2] at H
                      rw [HM.out] at H
                      by_cases f1 : y1 < 64
                      · rw [if_pos f1] at H
                        have f1b0 : decide (y1 < 64) = true := decide_eq_true f1
                        by_cases f2 : 0 ≤ x1
                        · rw [if_pos f2] at H
                          by_cases f3 : x1 < 64
                          · rw [if_pos f3] at H
                            by_cases f4 : 0 ≤ y1
                            · rw [if_pos f4] at H
                              have hcl := pl_rowGet k69 (fun x_ => x_.f0) z69 kPl_sz (fun _ _ _ _ _ h_ => k69_openM h_) m x1 HO.out M2.out M3.out f2 f3
                              have e_2 := eq_true f2
                              have e_3 : (x1 < 64) = True := eq_true f3
                              have e_4 := eq_true f4
                              have e_1 : (y1 < 64) = True := eq_true f1
                              have e_5 : (0 ≤ IntKind.u64.wrap y1) = True := eq_true (by unfold IntKind.wrap; simp [IntKind.signed, IntKind.bits]; omega)
                              have Y0 := Aside0.mk f4
                              have Y1 := Aside0.mk f1
                              obtain ⟨rv, hrv⟩ : ∃ j_ : Int, rd (rd_T69 out m).f0 x1 = j_ := ⟨_, rfl⟩
                              rw [hrv] at H
                              rw [show rd (out.getD m.toNat z69).f0 x1 = rv from hrv] at hcl
                              by_cases c9 : (Go.bits .and .u64 (shr .u64 rv (IntKind.u64.wrap y1)) 1) = 1
                              · rw [if_pos c9] at H
                                have c9b0 : ((Go.bits .and .u64 (rv / 2 ^ min (IntKind.u64.wrap y1).toNat 64) 1) == 1) = true := beq_iff_eq.mpr c9
                                by_cases c10 : g2.length = 64
                                · rw [if_pos c10] at H
                                  have C10 := Aside0.mk c10
                                  obtain ⟨t, A0_, H⟩ := Option.bind_eq_some_iff.mp H
                                  have A1 := Aside0.mk A0_
                                  have H' := Aside0.mk H
                                  clear H A0_ f1 f2 f3 f4 c9 c10 hrv
                                  go_wp2
                                  clear hcl
                                  have n0_ := Aside0.mk (blk_drew BK5.out)
                                  have n1_ := Aside0.mk (Kd.R_drew HO.out)
                                  have n2_ := Aside0.mk (HB.out.drew)
                                  clear BK5 HO HB
                                  have BK5 := n0_
                                  have HO := n1_
                                  have HB := n2_
                                  clear n0_ n1_ n2_
                                  refine start_ (n := 11) (S := fun w' => w'.cell? ⟨gb5, y1.toNat, none⟩ = some (.int .u64 (rd g2 y1))) (ds := [10]) #[false, false, false, false, false, false, false, false, false, false, false] (by kernel_rfl) rfl rfl ((blk_cell BK5.out y1.toNat).trans (by rw [plA_get _ _ (by have := Y0.out; have := Y1.out; omega), Int.toNat_of_nonneg Y0.out])) (fun hHeld => ?_)
                                  generalize wr.drew = wd at BK5 HO HB hHeld ⊢
                                  refine pure_ (i := 0) (N := some 44) (v := ?_) (a' := ?_) #[true, false, false, false, false, false, false, false, false, false, false] rfl rfl (by kernel_rfl) (fun _ _ _ h => h) (Or.inl ⟨by rfl, ?_⟩) ?_ ?_
                                  rotate_left
                                  · intro w'
                                    go_simp
                                    first | done | with_reducible rfl | rfl
                                  rotate_left
                                  · simp only [Act.put, List.setIfInBounds_toArray, List.set_cons_zero, List.set_cons_succ, i64_w, i32_w]
                                    rfl
                                  refine pure_ (i := 1) (N := some 45) (v := ?_) (a' := ?_) #[true, true, false, false, false, false, false, false, false, false, false] rfl rfl (by kernel_rfl) (fun _ _ _ h => h) (Or.inl ⟨by rfl, ?_⟩) ?_ ?_
                                  rotate_left
                                  · intro w'
                                    go_simp
                                    first | done | with_reducible rfl | rfl
                                  rotate_left
                                  · simp only [Act.put, List.setIfInBounds_toArray, List.set_cons_zero, List.set_cons_succ, i64_w, i32_w]
                                    rfl
                                  refine pure_ (i := 3) (N := some 47) (v := ?_) (a' := ?_) #[true, true, false, true, false, false, false, false, false, false, false] rfl rfl (by kernel_rfl) (fun _ _ _ h => h) (Or.inl ⟨by rfl, ?_⟩) ?_ ?_
                                  rotate_left
                                  · intro w'
                                    go_simp
                                    first | done | with_reducible rfl | rfl
                                  rotate_left
                                  · simp only [Act.put, List.setIfInBounds_toArray, List.set_cons_zero, List.set_cons_succ, i64_w, i32_w]
                                    rfl
                                  refine pure_ (i := 4) (N := some 48) (v := ?_) (a' := ?_) #[true, true, false, true, true, false, false, false, false, false, false] rfl rfl (by kernel_rfl) (fun _ _ _ h => h) (Or.inl ⟨by rfl, ?_⟩) ?_ ?_
                                  rotate_left
                                  · intro w'
                                    go_simp
                                    first | done | with_reducible rfl | rfl
                                  rotate_left
                                  · simp only [Act.put, List.setIfInBounds_toArray, List.set_cons_zero, List.set_cons_succ, i64_w, i32_w]
                                    rfl
                                  refine pure_ (i := 5) (N := some 49) (v := ?_) (a' := ?_) #[true, true, false, true, true, true, false, false, false, false, false] rfl rfl (by kernel_rfl) (fun _ _ _ h => h) (Or.inl ⟨by rfl, ?_⟩) ?_ ?_
                                  rotate_left
                                  · intro w'
                                    go_simp
                                    first | done | with_reducible rfl | rfl
                                  rotate_left
                                  · simp only [Act.put, List.setIfInBounds_toArray, List.set_cons_zero, List.set_cons_succ, i64_w, i32_w]
                                    rfl
                                  refine pure_ (i := 6) (N := some 50) (v := ?_) (a' := ?_) #[true, true, false, true, true, true, true, false, false, false, false] rfl rfl (by kernel_rfl) (fun _ _ _ h => h) (Or.inl ⟨by rfl, ?_⟩) ?_ ?_
                                  rotate_left
                                  · intro w'
                                    go_simp
                                    first | done | with_reducible rfl | rfl
                                  rotate_left
                                  · simp only [Act.put, List.setIfInBounds_toArray, List.set_cons_zero, List.set_cons_succ, i64_w, i32_w]
                                    rfl
                                  refine take_ (i := 2) (N := some 46) (v := ?_) (a' := ?_) #[true, true, true, true, true, true, true, false, false, false, false] rfl rfl (by kernel_rfl) (fun _ _ _ h => h) (Or.inl ⟨by rfl, ?_⟩) hHeld ?_ ?_
                                  rotate_left
                                  · intro w' s0
                                    go_simp
                                    first | done | with_reducible rfl | rfl
                                  rotate_left
                                  · simp only [Act.put, List.setIfInBounds_toArray, List.set_cons_zero, List.set_cons_succ, i64_w, i32_w]
                                    rfl
                                  refine one_ (i := 7) (N := some 51) #[true, true, true, true, true, true, true, true, false, false, false] rfl rfl (by kernel_rfl) (by decide) (fun K hK => ?_)
                                  refine goes_ Try.func34 (by kernel_rfl) rfl #[.pointer (some ad0_), .int .i64 x1, .int .i64 y1, .int .i64 n] (by rfl) rfl rfl (by (try simp only [List.map_toArray, List.map_cons, List.map_nil]); first | done | rfl) ?_
                                  with_reducible refine (spec_l05Stretch_may.calls A0 c0 l0 a1 a2 a3 a4 x1 y1 n t _ (Kd.C_below HR0.out (HB.out)) HC0.out (((HB.out).cell (World.block_lt_of_cell? w _ HQ0_.out)).trans HQ0_.out) (((HB.out).cell (World.block_lt_of_cell? w _ HQ1_.out)).trans HQ1_.out) (((HB.out).cell (World.block_lt_of_cell? w _ HQ2_.out)).trans HQ2_.out) (((HB.out).cell (World.block_lt_of_cell? w _ HQ3_.out)).trans HQ3_.out) (((HB.out).cell (World.block_lt_of_cell? w _ HQ4_.out)).trans HQ4_.out) A1.out).mono ?_
                                  rintro e w' ⟨rfl, ⟨nd, rfl⟩⟩
                                  refine ⟨_, rfl, ?_⟩
                                  have n0_ := Aside0.mk (show (wd.drewN nd).heap[gb5]? = some (.cells (plA g2) 69 (0, 0)) from BK5.out)
                                  have n1_ := Aside0.mk (show Kd.R k69 69 (wd.drewN nd) w.heap.size (fun k_ => True ∧ k_ ≠ gb5) (.slice (some ⟨go, 0, none⟩) out.length co) out from Kd.R_drewN HO.out nd)
                                  have n2_ := Aside0.mk (show Below w.heap.size w (wd.drewN nd) from by apply pw_below_drewN; exact HB.out)
                                  clear BK5 HO HB
                                  have BK5 := n0_
                                  have HO := n1_
                                  have HB := n2_
                                  clear n0_ n1_ n2_
                                  refine hK.out _ _ ((blk_cell BK5.out y1.toNat).trans (by rw [plA_get _ _ (by have := Y0.out; have := Y1.out; omega), Int.toNat_of_nonneg Y0.out])) (fun hHeld => ?_)
                                  clear hK K
                                  generalize wd.drewN nd = we at BK5 HO HB hHeld ⊢
                                  refine norm_ (a' := ?_) ?_ ?_
                                  rotate_left
                                  · show Act.put _ (some 51) _ = _
                                    simp only [Act.put, List.setIfInBounds_toArray, List.set_cons_zero, List.set_cons_succ, i64_w, i32_w]
                                    rfl
                                  refine pure_ (i := 8) (N := some 52) (v := ?_) (a' := ?_) #[true, true, true, true, true, true, true, true, true, false, false] rfl rfl (by kernel_rfl) (fun _ _ _ h => h) (Or.inl ⟨by rfl, ?_⟩) ?_ ?_
                                  rotate_left
                                  · intro w'
                                    go_simp
                                    first | done | with_reducible rfl | rfl
                                  rotate_left
                                  · simp only [Act.put, List.setIfInBounds_toArray, List.set_cons_zero, List.set_cons_succ, i64_w, i32_w]
                                    rfl
                                  refine pure_ (i := 9) (N := some 53) (v := ?_) (a' := ?_) #[true, true, true, true, true, true, true, true, true, true, false] rfl rfl (by kernel_rfl) (fun _ _ _ h => h) (Or.inl ⟨by rfl, ?_⟩) ?_ ?_
                                  rotate_left
                                  · intro w'
                                    go_simp
                                    first | done | with_reducible rfl | rfl
                                  rotate_left
                                  · simp only [Act.put, List.setIfInBounds_toArray, List.set_cons_zero, List.set_cons_succ, i64_w, i32_w]
                                    rfl
                                  have hcell := hHeld
                                  have hfro : we.frozen? ⟨gb5, y1.toNat, none⟩ = false := blk_frozen BK5.out _
                                  refine last_ (i := 10) (N := none) #[true, true, true, true, true, true, true, true, true, true, true] rfl rfl (by kernel_rfl) (by decide) (fun K hK => ?_)
                                  refine skip_ (w1 := ?_) (by rfl) rfl ?_ ?_
                                  rotate_left
                                  · go_simp
                                    first | done | rfl
                                  refine hK.out _ _ ?_
                                  clear hK K
                                  refine done_ (by kernel_rfl) ?_
                                  have n0_ := Aside0.mk (blk_set BK5.out y1.toNat (Value.int .u64 (Go.bits .or .u64 (rd g2 y1) t)))
                                  rw [plA_set g2 C10.out _ (by have := Y0.out; have := Y1.out; omega)] at n0_
                                  have n1_ := Aside0.mk (Kd.R_far HO.out (p := ⟨gb5, y1.toNat, none⟩) (fun k_ h_ => h_.2) (Value.int .u64 (Go.bits .or .u64 (rd g2 y1) t)))
                                  have n2_ := Aside0.mk (HB.out.setCell (p := ⟨gb5, y1.toNat, none⟩) GE5.out (Value.int .u64 (Go.bits .or .u64 (rd g2 y1) t)))
                                  clear BK5 HO HB hcell hHeld hfro
                                  have BK5 := n0_
                                  have HO := n1_
                                  have HB := n2_
                                  clear n0_ n1_ n2_
                                  generalize (we.setCell ⟨gb5, y1.toNat, none⟩ (Value.int .u64 (Go.bits .or .u64 (rd g2 y1) t))) = wz at BK5 HO HB ⊢
                                  go_wp2
                                  go_roundg k3
                                  case measure => have := HK1.out; have := HK2.out; have := HK3.out; omega
                                  case rel => exact ⟨(wrap64 (y1 + 1)), _, (by first | rfl | (simp; done) | (simp [*]; done)), H', ⟨by have := HK1.out; have := HK2.out; have := HK3.out; omega⟩, BK5, HO, HB⟩
                                · rw [if_neg c10] at H; cases H
                              · rw [if_neg c9] at H
                                have c9b0 : ((Go.bits .and .u64 (rv / 2 ^ min (IntKind.u64.wrap y1).toNat 64) 1) == 1) = false := beq_eq_false_iff_ne.mpr c9
                                have H' := Aside0.mk H
                                clear H f1 f2 f3 f4 c9 hrv
                                go_wp2
                                go_roundg k3
                                case measure => have := HK1.out; have := HK2.out; have := HK3.out; omega
                                case rel => exact ⟨(wrap64 (y1 + 1)), g2, (by first | rfl | (simp; done) | (simp [*]; done)), H', ⟨by have := HK1.out; have := HK2.out; have := HK3.out; omega⟩, BK5, HO, HB⟩
                            · rw [if_neg f4] at H; cases H
                          · rw [if_neg f3] at H; cases H
                        · rw [if_neg f2] at H; cases H
                      · rw [if_neg f1] at H
                        have f1b0 : decide (y1 < 64) = false := decide_eq_false f1
                        have H' := Aside0.mk H
                        clear H f1
                        go_wp2
                        go_roundg k3
                        case measure => have := HK1.out; have := HK2.out; have := HK3.out; omega
                        case rel => exact ⟨(wrap64 (x1 + 1)), g2, (by first | rfl | (simp; done) | (simp [*]; done)), H', ⟨by have := HK1.out; have := HK2.out; have := HK3.out; omega⟩, BK5, HO, HB⟩
                · rw [if_neg d1] at H
                  have d1b0 : decide (x1 < 64) = false := decide_eq_false d1
                  by_cases d2 : out.length < 274877906944
                  · rw [if_pos d2] at H
                    have CL := Aside0.mk d2
                    have H' := Aside0.mk H
                    clear H d1 d2
                    go_wp2_with (first | ((with_reducible refine gate_dst (N := 55) rfl ?_); refine pl_load (p := 5) (g := gb5) (x := g1) ?qg ?qo ?qp BK5.out Try.underlying69 (by kernel_rfl) ?_; (case qo => rfl); (case qg => rfl); (case qp => rfl)) | ((with_reducible refine gate_dst (N := 56) rfl ?_); refine Kd.event_run ?bg (pl_litRunA (x := g1) ?bh Try.underlying41 pinfo69) ?_; (case bg => rfl); (case bh => exact ⟨_, rfl, rfl⟩)) | ((with_reducible refine gate_builtin (b := .append) (xs := #[.tmp 54, .tmp 56]) rfl ?_); at_builtin; refine pl_append k69 (fun x_ => x_.f0) (⟨g1⟩ : S69) kPl_sz (fun w_ b_ o_ => k69_mkM w_ b_ o_ _) (w0 := w) (base := w.heap.size) (s := .tmp 54) (x := .tmp 56) ?ag ?ao Try.underlying41 pinfo69 ?asx ?ax (Kd.R_mono HO.out (fun _ _ => trivial)) HB.out (below_size HB.out) CL.out ?_; (case ag => rfl); (case ao => rfl); (case asx => rfl); (case ax => first | rfl | (go_simp; done) | (go_simp; rfl)); intro v57 w8 ho hb; have n0_ := Aside0.mk ho; have n1_ := Aside0.mk hb; clear HB HO; have HO := n0_; have HB := n1_; clear n0_ n1_ ho hb))
                    go_roundg k2
                    case measure => have := HK1.out; have := HK2.out; omega
                    case rel => exact ⟨_, (wrap64 (n + 1)), (by first | rfl | (simp; done) | (simp [*]; done)), H', ⟨by have := HK1.out; have := HK2.out; omega⟩, HO, HB⟩
                  · rw [if_neg d2] at H; cases H
          · rw [if_neg c3] at H; cases H
        · rw [if_neg c2] at H; cases H
      · rw [if_neg c1] at H
        have c1b0 : decide (n ≤ wrap64 (a2 + 2)) = false := decide_eq_false c1
        clear c1
        obtain rfl := Option.some.inj H
        go_wp2
        go_ret
        exact ⟨_, by first | rfl | (simp; done) | (simp [*]; done), HO.out, HB.out⟩

/-! ### spec_ReachOf: function 19 -/
def spec_ReachOf.f (k : Nat) (l0 : List Int) (a1 : Int) (a2 : Int) (a3 : Int) (a4 : Int) : Option ((List (S69)) × Int) := (spec_l05Asked.f k l0 a1 a2 a3 a4).bind fun t137 => (if t137 = 0 then ((spec_l05Stretch_reach.f k l0 a1 a2 a3 a4).bind fun t139 => (some (t139, 0))) else (some ((([] : List (S69))), t137)))
theorem spec_ReachOf.mono : ∀ a0 a1 a2 a3 a4 k, LeO (spec_ReachOf.f k a0 a1 a2 a3 a4) (spec_ReachOf.f (k + 1) a0 a1 a2 a3 a4) := by
  intro a0 a1 a2 a3 a4 k
  unfold spec_ReachOf.f
  repeat' first
      | (with_reducible exact spec_l05Asked.mono _ _ _ _ _ _)
      | (with_reducible exact spec_l05Stretch_reach.mono _ _ _ _ _ _)
      | (with_reducible exact LeO.refl _)
      | (with_reducible exact LeO.none _)
      | (with_reducible refine LeO.ite ?_ ?_)
      | (with_reducible refine LeO.bind ?_ (fun _ => ?_))
      | exact spec_l05Asked.mono _ _ _ _ _ _
      | exact spec_l05Stretch_reach.mono _ _ _ _ _ _
      | exact LeO.none _
      | refine LeO.ite ?_ ?_
      | refine LeO.bind ?_ (fun _ => ?_)
set_option maxHeartbeats 8000000 in
set_option maxRecDepth 100000 in
theorem spec_ReachOf.calls (k : Nat) (A0 : Option Addr) (c0 : Nat) (l0 : List Int) (a1 : Int) (a2 : Int) (a3 : Int) (a4 : Int) (r1 : List (S69)) (r2 : Int) (w : World) (hr0 : Kd.C (Kd.int .i16) w A0 l0.length l0) (hc0 : l0.length ≤ c0) (h : spec_ReachOf.f k l0 a1 a2 a3 a4 = some (r1, r2)) :
    Calls Try.prog 19 #[.slice A0 l0.length c0, .int .i64 a1, .int .i64 a2, .int .i64 a3, .int .i64 a4] w fun e w' => ∃ v0_ : Value, e = .returned (.tuple #[v0_, .int .i64 r2]) ∧ Kd.R k69 69 w' w.heap.size (fun _ => True) v0_ r1 ∧ Below w.heap.size w w' := by
  have hu67 := Try.underlying67
  have HR0 := Aside0.mk hr0
  have HC0 := Aside0.mk hc0
  clear hr0 hc0
  have HB := Aside0.mk (Below.refl w.heap.size w)
  have H : ((spec_l05Asked.f k l0 a1 a2 a3 a4).bind fun t137 => (if t137 = 0 then ((spec_l05Stretch_reach.f k l0 a1 a2 a3 a4).bind fun t139 => (some (t139, 0))) else (some ((([] : List (S69))), t137)))) = some (r1, r2) := h
  clear h
  replace H := Option.bind_eq_some_iff.mp H
  obtain ⟨t137, A60, H⟩ := H
  replace H : (if t137 = 0 then ((spec_l05Stretch_reach.f k l0 a1 a2 a3 a4).bind fun t139 => (some (t139, 0))) else (some ((([] : List (S69))), t137))) = some (r1, r2) := H
  have A6 := Aside0.mk A60
  clear A60
  by_cases c7 : t137 = 0
  · rw [if_pos c7] at H
    have c7b0 : (t137 == 0) = true := beq_iff_eq.mpr c7
    have c7b1 : (t137 != 0) = false := bne_eq_false_iff_eq.mpr c7
    clear c7
    replace H := Option.bind_eq_some_iff.mp H
    obtain ⟨t139, A80, H⟩ := H
    replace H : (some (t139, 0)) = some (r1, r2) := H
    have A8 := Aside0.mk A80
    clear A80
    simp only [Option.some.injEq, Prod.mk.injEq] at H
    obtain ⟨rfl, rfl⟩ := H
    go_enter Try.func19, Try.ntmps19
    go_wp2_with (first | ((with_reducible refine gate_callee (f := 31) rfl ?_); refine goesL_ (some 19) rfl rfl Try.func31 (by kernel_rfl) rfl #[.slice A0 l0.length c0, .int .i64 a1, .int .i64 a2, .int .i64 a3, .int .i64 a4] rfl (by (try simp only [List.map_toArray, List.map_cons, List.map_nil]); first | done | rfl | (simp only [List.length_drop, List.length_take]; rfl)) ?_; (with_reducible refine (spec_l05Asked.calls k _ _ l0 a1 a2 a3 a4 t137 _ ?side1 ?side2 A6.out).mono ?_); (case side1 => repeat (first | exact HR0.out | (with_reducible refine Kd.C_alloc ?_ _) | (with_reducible refine Kd.C_drewN ?_ _) | (with_reducible refine Kd.C_drew ?_))); (case side2 => exact HC0.out); rintro e w9 ⟨rfl, hb⟩; refine ⟨_, rfl, ?_⟩; have n0_ := Aside0.mk (below_step (by repeat (first | (with_reducible first | exact HB.out | apply below_alloc | apply pw_below_drewN | apply below_drew1) | exact HB.out)) hb); clear HB; have HB := n0_; clear n0_; (try clear hb); (try clear hb2); (try clear hk); (try clear hi)) | ((with_reducible refine gate_dst (N := 30) rfl ?_); refine box_event ?hg (N := 30) ?hd (cs := #[.slice A0 l0.length c0, .int .i64 a1, .int .i64 a2, .int .i64 a3, .int .i64 a4]) (t := 67) ?hr ?_; (case hd => rfl); (case hg => rfl); (case hr => first | (go_simp; done) | (go_simp; rfl)); intro gb138 hg w10 hbox hb; have n0_ := Aside0.mk (below_step (by repeat (first | (with_reducible first | exact HB.out | apply below_alloc | apply pw_below_drewN | apply below_drew1) | exact HB.out)) hb); have n1_ := Aside0.mk (hbox); have n2_ := Aside0.mk ((by rw [hg]; exact (below_size (by repeat (first | (with_reducible first | exact HB.out | apply below_alloc | apply pw_below_drewN | apply below_drew1) | exact HB.out))) : w.heap.size ≤ gb138)); have n3_ := Aside0.mk ((by rw [hg]; exact (below_size (by repeat (first | (with_reducible first | exact HB.out | apply below_alloc | apply pw_below_drewN | apply below_drew1) | exact HB.out))) : w.heap.size ≤ gb138)); clear HB; have HB := n0_; have BK138 := n1_; have GW138 := n2_; have GE138 := n3_; clear n0_ n1_ n2_ n3_; clear hb hbox hg) | ((with_reducible refine gate_callee (f := 43) rfl ?_); refine goesL_ (some 32) rfl rfl Try.func43 (by kernel_rfl) rfl #[.pointer (some ⟨gb138, 0, none⟩)] rfl (by (try simp only [List.map_toArray, List.map_cons, List.map_nil]); first | done | rfl | (simp only [List.length_drop, List.length_take]; rfl)) ?_; (with_reducible refine (spec_l05Stretch_reach.calls k A0 c0 l0 a1 a2 a3 a4 t139 _ ?side1 ?side2 ?side3 ?side4 ?side5 ?side6 ?side7 A8.out).mono ?_); (case side1 => repeat (first | exact (Kd.C_below HR0.out HB.out) | (with_reducible refine Kd.C_alloc ?_ _) | (with_reducible refine Kd.C_drewN ?_ _) | (with_reducible refine Kd.C_drew ?_))); (case side2 => exact HC0.out); (case side3 => exact (blk_cell (g := gb138) (t := 67) (cs := #[.slice A0 l0.length c0, .int .i64 a1, .int .i64 a2, .int .i64 a3, .int .i64 a4]) (by (with_reducible repeat (first | refine blk_drewN ?_ _ | refine blk_drew ?_ | refine blk_alloc ?_ _)); exact BK138.out) 0).trans rfl); (case side4 => exact (blk_cell (g := gb138) (t := 67) (cs := #[.slice A0 l0.length c0, .int .i64 a1, .int .i64 a2, .int .i64 a3, .int .i64 a4]) (by (with_reducible repeat (first | refine blk_drewN ?_ _ | refine blk_drew ?_ | refine blk_alloc ?_ _)); exact BK138.out) 1).trans rfl); (case side5 => exact (blk_cell (g := gb138) (t := 67) (cs := #[.slice A0 l0.length c0, .int .i64 a1, .int .i64 a2, .int .i64 a3, .int .i64 a4]) (by (with_reducible repeat (first | refine blk_drewN ?_ _ | refine blk_drew ?_ | refine blk_alloc ?_ _)); exact BK138.out) 2).trans rfl); (case side6 => exact (blk_cell (g := gb138) (t := 67) (cs := #[.slice A0 l0.length c0, .int .i64 a1, .int .i64 a2, .int .i64 a3, .int .i64 a4]) (by (with_reducible repeat (first | refine blk_drewN ?_ _ | refine blk_drew ?_ | refine blk_alloc ?_ _)); exact BK138.out) 3).trans rfl); (case side7 => exact (blk_cell (g := gb138) (t := 67) (cs := #[.slice A0 l0.length c0, .int .i64 a1, .int .i64 a2, .int .i64 a3, .int .i64 a4]) (by (with_reducible repeat (first | refine blk_drewN ?_ _ | refine blk_drew ?_ | refine blk_alloc ?_ _)); exact BK138.out) 4).trans rfl); rintro e w11 ⟨v140, rfl, ho0, hb⟩; refine ⟨_, rfl, ?_⟩; have n0_ := Aside0.mk (Kd.R_lower ho0 (below_size (by repeat (first | (with_reducible first | exact HB.out | apply below_alloc | apply pw_below_drewN | apply below_drew1 | refine below_set ?_ GE138.out) | exact HB.out)))); have n1_ := Aside0.mk (blk_below (g := gb138) (o := .cells #[.slice A0 l0.length c0, .int .i64 a1, .int .i64 a2, .int .i64 a3, .int .i64 a4] 67 (0, 0)) (by (with_reducible repeat (first | refine blk_drewN ?_ _ | refine blk_drew ?_ | refine blk_alloc ?_ _)); exact BK138.out) hb); have n2_ := Aside0.mk (below_step (by repeat (first | (with_reducible first | exact HB.out | apply below_alloc | apply pw_below_drewN | apply below_drew1 | refine below_set ?_ GE138.out) | exact HB.out)) hb); clear BK138; clear HB; have HO141 := n0_; have BK138 := n1_; have HB := n2_; clear n0_ n1_ n2_; (try clear hb); (try clear hb2); (try clear hk); (try clear hi); (try clear ho0)))
    go_ret2
    exact ⟨_, by first | rfl | (simp [errW_none, errW_some] <;> rfl) | (simp [*, errW_none, errW_some] <;> rfl), by (with_reducible repeat (first | apply Kd.R_alloc | apply Kd.R_drewN | apply Kd.R_drew)); exact HO141.out, by repeat (first | (with_reducible first | exact HB.out | apply below_alloc | apply pw_below_drewN | apply below_drew1 | refine below_set ?_ GE138.out) | exact HB.out)⟩
  · rw [if_neg c7] at H
    have c7b0 : (t137 == 0) = false := beq_eq_false_iff_ne.mpr c7
    have c7b1 : (t137 != 0) = true := bne_iff_ne.mpr c7
    obtain ⟨y142, hy142⟩ : ∃ y_ : List (S69), y_ = (([] : List (S69))) := ⟨_, rfl⟩
    replace H : (some (y142, t137)) = some (r1, r2) := by first | (rw [hy142]; with_reducible exact H) | (have H2_ := (Option.bind_some _ _).symm.trans H; rw [hy142]; with_reducible exact H2_) | (have H2_ := (Option.bind_some _ _).symm.trans H; with_reducible exact H2_) | with_reducible exact H | (rw [hy142]; exact H) | exact H
    have Ny142 := Aside0.mk hy142
    clear hy142
    simp only [Option.some.injEq, Prod.mk.injEq] at H
    obtain ⟨rfl, rfl⟩ := H
    go_enter Try.func19, Try.ntmps19
    go_wp2_with (first | ((with_reducible refine gate_callee (f := 31) rfl ?_); refine goesL_ (some 19) rfl rfl Try.func31 (by kernel_rfl) rfl #[.slice A0 l0.length c0, .int .i64 a1, .int .i64 a2, .int .i64 a3, .int .i64 a4] rfl (by (try simp only [List.map_toArray, List.map_cons, List.map_nil]); first | done | rfl | (simp only [List.length_drop, List.length_take]; rfl)) ?_; (with_reducible refine (spec_l05Asked.calls k _ _ l0 a1 a2 a3 a4 t137 _ ?side1 ?side2 A6.out).mono ?_); (case side1 => repeat (first | exact HR0.out | (with_reducible refine Kd.C_alloc ?_ _) | (with_reducible refine Kd.C_drewN ?_ _) | (with_reducible refine Kd.C_drew ?_))); (case side2 => exact HC0.out); rintro e w12 ⟨rfl, hb⟩; refine ⟨_, rfl, ?_⟩; have n0_ := Aside0.mk (below_step (by repeat (first | (with_reducible first | exact HB.out | apply below_alloc | apply pw_below_drewN | apply below_drew1) | exact HB.out)) hb); clear HB; have HB := n0_; clear n0_; (try clear hb); (try clear hb2); (try clear hk); (try clear hi)) | ((with_reducible refine gate_dst (N := 22) rfl ?_); refine Kd.R_lit k69 _ 69 ?hg (N := 22) ?hd (xs := ([] : List (S69))) (inner := []) (ok := fun _ => True) (okp := fun _ => True) ?hr ?hp (fun _ hk => hk) trivial (Below.refl _ _) (Nat.le_refl _) (by simp) ?_; (case hd => rfl); (case hg => rfl); (case hr => first | (go_simp; done) | (go_simp; rfl)); (case hp => exact (Reps.none _ _)); intro v143 w13 ho14 hb hg_ hnew_; clear hg_ hnew_; (first | rw [← Ny142.out] at ho14 | (simp only [Int.reduceToNat] at ho14; rw [← Ny142.out] at ho14)); have n0_ := Aside0.mk (Kd.R_lower ho14 (below_size (by repeat (first | (with_reducible first | exact HB.out | apply below_alloc | apply pw_below_drewN | apply below_drew1) | exact HB.out)))); have n1_ := Aside0.mk (below_step (by repeat (first | (with_reducible first | exact HB.out | apply below_alloc | apply pw_below_drewN | apply below_drew1) | exact HB.out)) hb); clear HB; have HO144 := n0_; have HB := n1_; clear n0_ n1_; clear hb ho14))
    go_ret2
    exact ⟨_, by first | rfl | (simp [errW_none, errW_some] <;> rfl) | (simp [*, errW_none, errW_some] <;> rfl), by (with_reducible repeat (first | apply Kd.R_alloc | apply Kd.R_drewN | apply Kd.R_drew)); exact HO144.out, by repeat (first | (with_reducible first | exact HB.out | apply below_alloc | apply pw_below_drewN | apply below_drew1) | exact HB.out)⟩

/-! ### impl_inRange: function 50 -/
def impl_inRange.f (a0 : Int) (a1 : Int) (a2 : Int) : Option (Bool) := if a1 ≤ a0 then (some (decide (a0 ≤ a2))) else (some false)
set_option maxHeartbeats 8000000 in
set_option maxRecDepth 100000 in
theorem impl_inRange.calls (a0 : Int) (a1 : Int) (a2 : Int) (r : Bool) (w : World) (h : impl_inRange.f a0 a1 a2 = some r) :
    Calls Try.prog 50 #[.int .i64 a0, .int .i64 a1, .int .i64 a2] w fun e w' => e = .returned (.bool r) ∧ Drawn0 w w' := by
  have H : (if a1 ≤ a0 then (some (decide (a0 ≤ a2))) else (some false)) = some r := h
  clear h
  by_cases c4 : a1 ≤ a0
  · rw [if_pos c4] at H
    have c4b0 : decide (a1 ≤ a0) = true := decide_eq_true c4
    clear c4
    obtain rfl := Option.some.inj H
    go_enter Try.func50, Try.ntmps50
    go_wp2
    go_ret
    exact ⟨by first | rfl | (simp; done) | (simp [*]; done) | (simp [i64_w]; done), by repeat (first | exact Drawn0.refl _ | apply Drawn0.step)⟩
  · rw [if_neg c4] at H
    have c4b0 : decide (a1 ≤ a0) = false := decide_eq_false c4
    clear c4
    obtain rfl := Option.some.inj H
    go_enter Try.func50, Try.ntmps50
    go_wp2
    go_ret
    exact ⟨by first | rfl | (simp; done) | (simp [*]; done) | (simp [i64_w]; done), by repeat (first | exact Drawn0.refl _ | apply Drawn0.step)⟩

/-! ### impl_firstCode: function 54 -/
def impl_firstCode.l0 : Nat → List Int → Int → Int → Option (Int)
  | 0, _, _, _ => none
  | k + 1, x5, x6, x7 => if x7 < x6 then (if 0 ≤ x7 then (if x7 < (x5.length : Int) then (if (rd x5 x7) = 0 then (impl_firstCode.l0 k x5 x6 (wrap64 (x7 + 1))) else (some (rd x5 x7))) else (none)) else (none)) else (some 0)
def impl_firstCode.f (k : Nat) (l0 : List Int) : Option (Int) := impl_firstCode.l0 k l0 (l0.length : Int) 0
theorem impl_firstCode.mono_l : ∀ k, (∀ y0 y1 y2, LeO (impl_firstCode.l0 k y0 y1 y2) (impl_firstCode.l0 (k + 1) y0 y1 y2))
  | 0 => fun _ _ _ r h => by simp [impl_firstCode.l0] at h
  | k + 1 => by
    have ih0 := impl_firstCode.mono_l k
    · intro y0 y1 y2
      unfold impl_firstCode.l0
      repeat' first
      | (with_reducible exact ih0 _ _ _)
      | (with_reducible exact LeO.refl _)
      | (with_reducible exact LeO.none _)
      | (with_reducible refine LeO.ite ?_ ?_)
      | (with_reducible refine LeO.bind ?_ (fun _ => ?_))
      | exact ih0 _ _ _
      | exact LeO.none _
      | refine LeO.ite ?_ ?_
      | refine LeO.bind ?_ (fun _ => ?_)
theorem impl_firstCode.mono : ∀ a0 k, LeO (impl_firstCode.f k a0) (impl_firstCode.f (k + 1) a0) := by
  intro a0 k
  have ih0 := impl_firstCode.mono_l k
  unfold impl_firstCode.f
  repeat' first
      | (with_reducible exact ih0 _ _ _)
      | (with_reducible exact LeO.refl _)
      | (with_reducible exact LeO.none _)
      | (with_reducible refine LeO.ite ?_ ?_)
      | (with_reducible refine LeO.bind ?_ (fun _ => ?_))
      | exact ih0 _ _ _
      | exact LeO.none _
      | refine LeO.ite ?_ ?_
      | refine LeO.bind ?_ (fun _ => ?_)
set_option maxHeartbeats 8000000 in
set_option maxRecDepth 100000 in
theorem impl_firstCode.calls (k : Nat) (A0 : Option Addr) (c0 : Nat) (l0 : List Int) (r : Int) (w : World) (hr0 : Kd.C (Kd.int .i64) w A0 l0.length l0) (hc0 : l0.length ≤ c0) (h : impl_firstCode.f k l0 = some r) :
    Calls Try.prog 54 #[.slice A0 l0.length c0] w fun e w' => e = .returned (.int .i64 r) ∧ Drawn0 w w' := by
  have HR0 := Aside0.mk hr0
  have HC0 := Aside0.mk hc0
  clear hr0 hc0
  have H : (impl_firstCode.l0 k l0 (l0.length : Int) 0) = some r := h
  clear h
  have H' := Aside0.mk H
  clear H
  go_enter Try.func54, Try.ntmps54
  go_wp2
  go_loopg [7] k (fun kq v7 w' => ∃ (x7_1 : Int), v7 = .int .i64 x7_1 ∧ Aside0 (impl_firstCode.l0 kq l0 (l0.length : Int) x7_1 = some r) ∧ Aside0 (kq ≤ k) ∧ Drawn0 w w')
  case atStart => exact ⟨(0), (by first | rfl | (simp; done) | (simp [*]; done)), H', ⟨Nat.le_refl _⟩, by repeat (first | exact Drawn0.refl _ | apply Drawn0.step)⟩
  case round =>
    clear H'
    obtain ⟨x7_1, rfl, HA, HK1, ⟨m1, rfl⟩⟩ := hrel
    cases gk with
    | zero => exact absurd HA.out (by simp [impl_firstCode.l0])
    | succ k1 =>
      have H := HA.out
      clear HA
      simp only [impl_firstCode.l0] at H
      by_cases c2 : x7_1 < (l0.length : Int)
      · rw [if_pos c2] at H
        have c2b0 : decide (x7_1 < (l0.length : Int)) = true := decide_eq_true c2
        clear c2
        by_cases c3 : 0 ≤ x7_1
        · rw [if_pos c3] at H
          have c3b0 : decide (0 ≤ x7_1) = true := decide_eq_true c3
          clear c3
          by_cases c4 : x7_1 < (l0.length : Int)
          · rw [if_pos c4] at H
            have c4b0 : decide (x7_1 < (l0.length : Int)) = true := decide_eq_true c4
            clear c4
            by_cases c5 : (rd l0 x7_1) = 0
            · rw [if_pos c5] at H
              have c5b0 : ((rd l0 x7_1) == 0) = true := beq_iff_eq.mpr c5
              have c5b1 : ((rd l0 x7_1) != 0) = false := bne_eq_false_iff_eq.mpr c5
              clear c5
              have H' := Aside0.mk H
              clear H
              have p145 : 0 ≤ (x7_1 : Int) := of_decide_eq_true (by first | (with_reducible assumption) | assumption)
              have q145 : x7_1 < (l0.length : Int) := of_decide_eq_true (by first | (with_reducible assumption) | assumption)
              obtain ⟨ad145, e145, hx145_0⟩ := Kd.at_int HR0.out x7_1 p145 q145
              cases e145
              replace p145 := eq_true p145
              replace q145 := eq_true q145
              go_wp2
              go_roundg k1
              case measure => have := HK1.out; omega
              case rel => exact ⟨(wrap64 (x7_1 + 1)), (by first | rfl | (simp; done) | (simp [*]; done)), H', ⟨by have := HK1.out; omega⟩, by repeat (first | exact Drawn0.refl _ | apply Drawn0.step)⟩
            · rw [if_neg c5] at H
              have c5b0 : ((rd l0 x7_1) == 0) = false := beq_eq_false_iff_ne.mpr c5
              have c5b1 : ((rd l0 x7_1) != 0) = true := bne_iff_ne.mpr c5
              obtain rfl := Option.some.inj H
              have p145 : 0 ≤ (x7_1 : Int) := of_decide_eq_true (by first | (with_reducible assumption) | assumption)
              have q145 : x7_1 < (l0.length : Int) := of_decide_eq_true (by first | (with_reducible assumption) | assumption)
              obtain ⟨ad145, e145, hx145_0⟩ := Kd.at_int HR0.out x7_1 p145 q145
              cases e145
              replace p145 := eq_true p145
              replace q145 := eq_true q145
              go_wp2
              go_ret
              exact ⟨by first | rfl | (simp; done) | (simp [*]; done) | (simp [i64_w]; done), by repeat (first | exact Drawn0.refl _ | apply Drawn0.step)⟩
          · rw [if_neg c4] at H
            exact absurd H (by simp)
        · rw [if_neg c3] at H
          exact absurd H (by simp)
      · rw [if_neg c2] at H
        have c2b0 : decide (x7_1 < (l0.length : Int)) = false := decide_eq_false c2
        clear c2
        obtain rfl := Option.some.inj H
        go_wp2
        go_ret
        exact ⟨by first | rfl | (simp; done) | (simp [*]; done) | (simp [i64_w]; done), by repeat (first | exact Drawn0.refl _ | apply Drawn0.step)⟩

/-! ### impl_codeIf: function 55 -/
def impl_codeIf.f (a0 : Bool) (a1 : Int) : Option (Int) := if a0 = true then (some a1) else (some 0)
set_option maxHeartbeats 8000000 in
set_option maxRecDepth 100000 in
theorem impl_codeIf.calls (a0 : Bool) (a1 : Int) (r : Int) (w : World) (h : impl_codeIf.f a0 a1 = some r) :
    Calls Try.prog 55 #[.bool a0, .int .i64 a1] w fun e w' => e = .returned (.int .i64 r) ∧ Drawn0 w w' := by
  have H : (if a0 = true then (some a1) else (some 0)) = some r := h
  clear h
  by_cases c3 : a0 = true
  · subst c3
    have H1 : (some a1) = some r := by rw [if_pos rfl] at H; exact H
    clear H
    have H := H1
    clear H1
    obtain rfl := Option.some.inj H
    go_enter Try.func55, Try.ntmps55
    go_wp2
    go_ret
    exact ⟨by first | rfl | (simp; done) | (simp [*]; done) | (simp [i64_w]; done), by repeat (first | exact Drawn0.refl _ | apply Drawn0.step)⟩
  · replace c3 := Bool.eq_false_iff.mpr c3
    subst c3
    have H1 : (some 0) = some r := by rw [if_neg (show ¬ (false = true) by decide)] at H; exact H
    clear H
    have H := H1
    clear H1
    obtain rfl := Option.some.inj H
    go_enter Try.func55, Try.ntmps55
    go_wp2
    go_ret
    exact ⟨by first | rfl | (simp; done) | (simp [*]; done) | (simp [i64_w]; done), by repeat (first | exact Drawn0.refl _ | apply Drawn0.step)⟩

/-! ### impl_Cam_steps: function 65 -/
def impl_Cam_steps.f (l0 : List Int) : Option (Int) := some (l0.length : Int)
set_option maxHeartbeats 8000000 in
set_option maxRecDepth 100000 in
theorem impl_Cam_steps.calls (A0 : Option Addr) (c0 : Nat) (l0 : List Int) (r : Int) (w : World) (hr0 : Kd.C (Kd.int .i16) w A0 l0.length l0) (hc0 : l0.length ≤ c0) (h : impl_Cam_steps.f l0 = some r) :
    Calls Try.prog 65 #[.slice A0 l0.length c0] w fun e w' => e = .returned (.int .i64 r) ∧ Drawn0 w w' := by
  have HR0 := Aside0.mk hr0
  have HC0 := Aside0.mk hc0
  clear hr0 hc0
  have H : (some (l0.length : Int)) = some r := h
  clear h
  obtain rfl := Option.some.inj H
  go_enter Try.func65, Try.ntmps65
  go_wp2
  go_ret
  exact ⟨by first | rfl | (simp; done) | (simp [*]; done) | (simp [i64_w]; done), by repeat (first | exact Drawn0.refl _ | apply Drawn0.step)⟩

/-! ### impl_isSteps: function 79 -/
def impl_isSteps.f (a0 : Int) : Option (Bool) := (impl_inRange.f a0 8 360).bind fun t146 => (some t146)
set_option maxHeartbeats 8000000 in
set_option maxRecDepth 100000 in
theorem impl_isSteps.calls (a0 : Int) (r : Bool) (w : World) (h : impl_isSteps.f a0 = some r) :
    Calls Try.prog 79 #[.int .i64 a0] w fun e w' => e = .returned (.bool r) ∧ Drawn0 w w' := by
  have H : ((impl_inRange.f a0 8 360).bind fun t146 => (some t146)) = some r := h
  clear h
  replace H := Option.bind_eq_some_iff.mp H
  obtain ⟨t146, A20, H⟩ := H
  replace H : (some t146) = some r := H
  have A2 := Aside0.mk A20
  clear A20
  obtain rfl := Option.some.inj H
  go_enter Try.func79, Try.ntmps79
  go_wp2_with (first | ((with_reducible refine gate_callee (f := 50) rfl ?_); refine goesL_ (some 4) rfl rfl Try.func50 (by kernel_rfl) rfl #[.int .i64 a0, .int .i64 8, .int .i64 360] rfl (by (try simp only [List.map_toArray, List.map_cons, List.map_nil]); first | done | rfl | (simp only [List.length_drop, List.length_take]; rfl)) ?_; (with_reducible refine (impl_inRange.calls a0 8 360 t146 _ A2.out).mono ?_); rintro e w' ⟨rfl, ⟨nd, rfl⟩⟩; refine ⟨_, rfl, ?_⟩))
  go_ret
  exact ⟨by first | rfl | (simp; done) | (simp [*]; done) | (simp [i64_w]; done), by repeat (first | exact Drawn0.refl _ | apply Drawn0.step)⟩

-- NOT PRINTED: function 88 (impl_Cam_int16_88)

-- NOT PRINTED: function 80 (impl_Cam_int16_80)

/-! ### impl_isLift: function 82 -/
def impl_isLift.f (a0 : Int) : Option (Bool) := (impl_inRange.f a0 0 10000).bind fun t147 => (some t147)
set_option maxHeartbeats 8000000 in
set_option maxRecDepth 100000 in
theorem impl_isLift.calls (a0 : Int) (r : Bool) (w : World) (h : impl_isLift.f a0 = some r) :
    Calls Try.prog 82 #[.int .i64 a0] w fun e w' => e = .returned (.bool r) ∧ Drawn0 w w' := by
  have H : ((impl_inRange.f a0 0 10000).bind fun t147 => (some t147)) = some r := h
  clear h
  replace H := Option.bind_eq_some_iff.mp H
  obtain ⟨t147, A20, H⟩ := H
  replace H : (some t147) = some r := H
  have A2 := Aside0.mk A20
  clear A20
  obtain rfl := Option.some.inj H
  go_enter Try.func82, Try.ntmps82
  go_wp2_with (first | ((with_reducible refine gate_callee (f := 50) rfl ?_); refine goesL_ (some 4) rfl rfl Try.func50 (by kernel_rfl) rfl #[.int .i64 a0, .int .i64 0, .int .i64 10000] rfl (by (try simp only [List.map_toArray, List.map_cons, List.map_nil]); first | done | rfl | (simp only [List.length_drop, List.length_take]; rfl)) ?_; (with_reducible refine (impl_inRange.calls a0 0 10000 t147 _ A2.out).mono ?_); rintro e w' ⟨rfl, ⟨nd, rfl⟩⟩; refine ⟨_, rfl, ?_⟩))
  go_ret
  exact ⟨by first | rfl | (simp; done) | (simp [*]; done) | (simp [i64_w]; done), by repeat (first | exact Drawn0.refl _ | apply Drawn0.step)⟩

/-! ### impl_ValidCam_c1: function 81 -/
def impl_ValidCam_c1.f (a0 : Int) : Option (Bool) := (impl_isLift.f (wrap64 (a0))).bind fun t148 => (some (!t148))
set_option maxHeartbeats 8000000 in
set_option maxRecDepth 100000 in
theorem impl_ValidCam_c1.calls (a0 : Int) (r : Bool) (w : World) (h : impl_ValidCam_c1.f a0 = some r) :
    Calls Try.prog 81 #[.int .i16 a0] w fun e w' => e = .returned (.bool r) ∧ Drawn0 w w' := by
  have H : ((impl_isLift.f (wrap64 (a0))).bind fun t148 => (some (!t148))) = some r := h
  clear h
  replace H := Option.bind_eq_some_iff.mp H
  obtain ⟨t148, A20, H⟩ := H
  replace H : (some (!t148)) = some r := H
  have A2 := Aside0.mk A20
  clear A20
  obtain rfl := Option.some.inj H
  go_enter Try.func81, Try.ntmps81
  go_wp2_with (first | ((with_reducible refine gate_callee (f := 82) rfl ?_); refine goesL_ (some 5) rfl rfl Try.func82 (by kernel_rfl) rfl #[.int .i64 (wrap64 (a0))] rfl (by (try simp only [List.map_toArray, List.map_cons, List.map_nil]); first | done | rfl | (simp only [List.length_drop, List.length_take]; rfl)) ?_; (with_reducible refine (impl_isLift.calls (wrap64 (a0)) t148 _ A2.out).mono ?_); rintro e w' ⟨rfl, ⟨nd, rfl⟩⟩; refine ⟨_, rfl, ?_⟩))
  go_ret
  exact ⟨by first | rfl | (simp; done) | (simp [*]; done) | (simp [i64_w]; done), by repeat (first | exact Drawn0.refl _ | apply Drawn0.step)⟩

end Go.Proofs.Ytkgeppbjfkhjcaa.XFnExactReachOf
