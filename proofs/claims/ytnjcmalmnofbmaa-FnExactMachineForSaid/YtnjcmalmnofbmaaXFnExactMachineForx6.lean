/- Printed by this repository's own program (wip/tools/xprint.py) for the law FnExactMachineFor: Lean functions that say what the Go functions compute, and the proofs that the machine comes to just that; no condition beyond those in each statement. -/
import Derived.Test.YtnjcmalmnofbmaaXFnExactMachineForx0
import Derived.Test.YtnjcmalmnofbmaaXFnExactMachineForx1
import Derived.Test.YtnjcmalmnofbmaaXFnExactMachineForx2
import Derived.Test.YtnjcmalmnofbmaaXFnExactMachineForx5
namespace Go.Proofs.Ytnjcmalmnofbmaa.XFnExactMachineFor
open Go.RowKit Go.Proofs.YtnjcmalmnofbmaaW.PrintWords Go.Proofs.YtnjcmalmnofbmaaW.PrintLast Go.Proofs.YtnjcmalmnofbmaaW.PrintMore
attribute [local go_sem] max2_int min2_int max_two min_two max_three min_three max_four min_four   -- for this text's walks alone
set_option linter.unusedVariables false
set_option linter.unusedSimpArgs false

set_option maxHeartbeats 8000000 in
set_option maxRecDepth 100000 in
theorem laws_eqStopS.calls (k : Nat) (A0 : Option Addr) (c0 : Nat) (l0 : List (S118)) (A1 : Option Addr) (c1 : Nat) (l1 : List (S118)) (r : Bool) (w : World) (hr0 : Kd.C k118 w A0 l0.length l0) (hc0 : l0.length ≤ c0) (hr1 : Kd.C k118 w A1 l1.length l1) (hc1 : l1.length ≤ c1) (h : laws_eqStopS.f k l0 l1 = some r) :
    Calls Try.prog 55 #[.slice A0 l0.length c0, .slice A1 l1.length c1] w fun e w' => e = .returned (.bool r) ∧ Below w.heap.size w w' := by
 have hu118 := Try.underlying118
 have HR0 := Aside0.mk hr0
 have HC0 := Aside0.mk hc0
 clear hr0 hc0
 have HR1 := Aside0.mk hr1
 have HC1 := Aside0.mk hc1
 clear hr1 hc1
 have HB := Aside0.mk (Below.refl w.heap.size w)
 have H : (if (l0.length : Int) = (l1.length : Int) then (laws_eqStopS.l0 k l0 l1 0) else (some false)) = some r := h
 clear h
 by_cases c3 : (l0.length : Int) = (l1.length : Int)
 ·rw [if_pos c3] at H
  have c3b0 : ((l0.length : Int) == (l1.length : Int)) = true := beq_iff_eq.mpr c3
  have c3b1 : ((l0.length : Int) != (l1.length : Int)) = false := bne_eq_false_iff_eq.mpr c3
  have c3b2 : (l0.length == l1.length) = true := by first | simpa using c3 | (simp at c3 ⊢; omega)
  clear c3
  have H' := Aside0.mk H
  clear H
  go_enter Try.func55, Try.ntmps55
  go_wp2
  go_loopg [5] k (fun kq v5 w' => ∃ (x5_1 : Int), v5 = .int .i64 x5_1 ∧ Aside0 (laws_eqStopS.l0 kq l0 l1 x5_1 = some r) ∧ Aside0 (kq ≤ k) ∧ Aside0 (Below w.heap.size w w'))
  case atStart => exact ⟨(0), (by first | rfl | (simp; done) | (simp [*]; done)), H', ⟨Nat.le_refl _⟩, ⟨by repeat (first | (with_reducible first | exact HB.out | apply below_alloc | apply pw_below_drewN | apply below_drew1) | exact HB.out)⟩⟩
  case round =>
   clear H'
   try clear c1
   try clear p2
   try clear c3
   try clear c3b0
   try clear c3b1
   try clear c3b2
   obtain ⟨x5_1, rfl, HA, HK1, HB⟩ := hrel
   cases gk with
   | zero => exact absurd HA.out (by simp [laws_eqStopS.l0])
   | succ k1 =>
    have H := HA.out
    clear HA
    simp only [laws_eqStopS.l0] at H
    by_cases c4 : x5_1 < (l0.length : Int)
    ·rw [if_pos c4] at H
     have c4b0 : decide (x5_1 < (l0.length : Int)) = true := decide_eq_true c4
     clear c4
     by_cases c5 : 0 ≤ x5_1
     ·rw [if_pos c5] at H
      have c5b0 : decide (0 ≤ x5_1) = true := decide_eq_true c5
      clear c5
      by_cases c6 : x5_1 < (l1.length : Int)
      ·rw [if_pos c6] at H
       have c6b0 : decide (x5_1 < (l1.length : Int)) = true := decide_eq_true c6
       clear c6
       replace H := Option.bind_eq_some_iff.mp H
       obtain ⟨t259, A70, H⟩ := H
       replace H : (if t259 = true then (laws_eqStopS.l0 k1 l0 l1 (wrap64 (x5_1 + 1))) else (some false)) = some r := H
       have A7 := Aside0.mk A70
       clear A70
       by_cases c8 : t259 = true
       ·subst c8
        have H1 : (laws_eqStopS.l0 k1 l0 l1 (wrap64 (x5_1 + 1))) = some r := by rw [if_pos rfl] at H; exact H
        clear H
        have H := H1
        clear H1
        have H' := Aside0.mk H
        clear H
        try go_wp2
        have n0_ := Aside0.mk (below_drew1 HB.out)
        clear HB; have HB := n0_; clear n0_
        have p257 : 0 ≤ (x5_1 : Int) := of_decide_eq_true a187_
        have q257 : x5_1 < (l0.length : Int) := of_decide_eq_true a187_
        obtain ⟨ad257, e257, hx257_0, hx257_1, hx257_2⟩ := at_T118 HR0.out x5_1 p257 q257
        have hw257_2 := hx257_2
        have hw257_1 := hx257_1
        have hw257_0 := hx257_0
        cases e257
        replace hx257_0 := (HB.out.cell (World.block_lt_of_cell? w _ hx257_0)).trans hx257_0
        replace hx257_1 := (HB.out.cell (World.block_lt_of_cell? w _ hx257_1)).trans hx257_1
        replace hx257_2 := (HB.out.cell (World.block_lt_of_cell? w _ hx257_2)).trans hx257_2
        replace p257 := eq_true p257
        replace q257 := eq_true q257
        have p258 : 0 ≤ (x5_1 : Int) := of_decide_eq_true a187_
        have q258 : x5_1 < (l1.length : Int) := of_decide_eq_true a187_
        obtain ⟨ad258, e258, hx258_0, hx258_1, hx258_2⟩ := at_T118 HR1.out x5_1 p258 q258
        have hw258_2 := hx258_2
        have hw258_1 := hx258_1
        have hw258_0 := hx258_0
        cases e258
        replace hx258_0 := (HB.out.cell (World.block_lt_of_cell? w _ hx258_0)).trans hx258_0
        replace hx258_1 := (HB.out.cell (World.block_lt_of_cell? w _ hx258_1)).trans hx258_1
        replace hx258_2 := (HB.out.cell (World.block_lt_of_cell? w _ hx258_2)).trans hx258_2
        replace p258 := eq_true p258
        replace q258 := eq_true q258
        refine start_ (n := 10) (S := fun w' => w'.cell? (ad257.add ((x5_1).toNat * 3)) = some (.int .i16 ((rd_T118 l0 x5_1).f0.f0)) ∧ w'.cell? ⟨(ad257.add ((x5_1).toNat * 3)).block, (ad257.add ((x5_1).toNat * 3)).off + 1, none⟩ = some (.int .i16 ((rd_T118 l0 x5_1).f0.f1)) ∧ w'.cell? ⟨(ad257.add ((x5_1).toNat * 3)).block, (ad257.add ((x5_1).toNat * 3)).off + 2, none⟩ = some (.bool ((rd_T118 l0 x5_1).f1)) ∧ w'.cell? (ad258.add ((x5_1).toNat * 3)) = some (.int .i16 ((rd_T118 l1 x5_1).f0.f0)) ∧ w'.cell? ⟨(ad258.add ((x5_1).toNat * 3)).block, (ad258.add ((x5_1).toNat * 3)).off + 1, none⟩ = some (.int .i16 ((rd_T118 l1 x5_1).f0.f1)) ∧ w'.cell? ⟨(ad258.add ((x5_1).toNat * 3)).block, (ad258.add ((x5_1).toNat * 3)).off + 2, none⟩ = some (.bool ((rd_T118 l1 x5_1).f1))) (ds := []) #[false, false, false, false, false, false, false, false, false, false] (by kernel_rfl) rfl rfl ⟨a181_, a182_, a183_, a184_, a185_, a186_⟩ (fun hHeld => ?_); refine with_tabW laws_eqStopS.tab6 laws_eqStopS.bits6 (fun HT_ HW_ => ?_)
        generalize wr.drew = w9 at HB hx257_0 hx257_1 hx257_2 hx258_0 hx258_1 hx258_2 hHeld ⊢
        refine pure_ (i := 0) (N := some 17) (v := ?_) (a' := ?_) #[true, false, false, false, false, false, false, false, false, false] rfl rfl (any_of HT_.out (by kernel_rfl)) (fun _ _ _ h => h) (Or.inl ⟨by rfl, ?_⟩) ?_ ?_
        rotate_left
        ·intro w'
         go_simp; with_reducible rfl
        rotate_left
        ·simp only [Act.put, List.setIfInBounds_toArray, List.set_cons_zero, List.set_cons_succ, i64_w, i32_w]
         rfl
        refine pure_ (i := 1) (N := some 18) (v := ?_) (a' := ?_) #[true, true, false, false, false, false, false, false, false, false] rfl rfl (any_of HT_.out (by kernel_rfl)) (fun _ _ _ h => h) (Or.inl ⟨by rfl, ?_⟩) ?_ ?_
        rotate_left
        ·intro w'
         go_simp; with_reducible rfl
        rotate_left
        ·simp only [Act.put, List.setIfInBounds_toArray, List.set_cons_zero, List.set_cons_succ, i64_w, i32_w]
         rfl
        refine pure_ (i := 2) (N := some 19) (v := ?_) (a' := ?_) #[true, true, true, false, false, false, false, false, false, false] rfl rfl (any_of HT_.out (by kernel_rfl)) (fun _ _ _ h => h) (Or.inl ⟨by rfl, ?_⟩) ?_ ?_
        rotate_left
        ·intro w'
         go_simp; with_reducible rfl
        rotate_left
        ·simp only [Act.put, List.setIfInBounds_toArray, List.set_cons_zero, List.set_cons_succ, i64_w, i32_w]
         rfl
        refine pure_ (i := 4) (N := some 21) (v := ?_) (a' := ?_) #[true, true, true, false, true, false, false, false, false, false] rfl rfl (any_of HT_.out (by kernel_rfl)) (fun _ _ _ h => h) (Or.inl ⟨by rfl, ?_⟩) ?_ ?_
        rotate_left
        ·intro w'
         go_simp; with_reducible rfl
        rotate_left
        ·simp only [Act.put, List.setIfInBounds_toArray, List.set_cons_zero, List.set_cons_succ, i64_w, i32_w]
         rfl
        refine pure_ (i := 5) (N := some 22) (v := ?_) (a' := ?_) #[true, true, true, false, true, true, false, false, false, false] rfl rfl (any_of HT_.out (by kernel_rfl)) (fun _ _ _ h => h) (Or.inl ⟨by rfl, ?_⟩) ?_ ?_
        rotate_left
        ·intro w'
         go_simp; with_reducible rfl
        rotate_left
        ·simp only [Act.put, List.setIfInBounds_toArray, List.set_cons_zero, List.set_cons_succ, i64_w, i32_w]
         rfl
        refine pure_ (i := 6) (N := some 23) (v := ?_) (a' := ?_) #[true, true, true, false, true, true, true, false, false, false] rfl rfl (any_of HT_.out (by kernel_rfl)) (fun _ _ _ h => h) (Or.inl ⟨by rfl, ?_⟩) ?_ ?_
        rotate_left
        ·intro w'
         go_simp; with_reducible rfl
        rotate_left
        ·simp only [Act.put, List.setIfInBounds_toArray, List.set_cons_zero, List.set_cons_succ, i64_w, i32_w]
         rfl
        refine take_ (i := 3) (N := some 20) (v := ?_) (a' := ?_) #[true, true, true, true, true, true, true, false, false, false] rfl rfl (take_ofW HT_.out HW_.out (by kernel_rfl)) (fun _ _ _ h => h) (Or.inl ⟨by rfl, ?_⟩) hHeld ?_ ?_
        rotate_left
        ·rintro w' ⟨s0, s1, s2, s3, s4, s5⟩
         go_simp; with_reducible rfl
        rotate_left
        ·simp only [Act.put, List.setIfInBounds_toArray, List.set_cons_zero, List.set_cons_succ, i64_w, i32_w]
         rfl
        refine take_ (i := 7) (N := some 24) (v := ?_) (a' := ?_) #[true, true, true, true, true, true, true, true, false, false] rfl rfl (take_ofW HT_.out HW_.out (by kernel_rfl)) (fun _ _ _ h => h) (Or.inl ⟨by rfl, ?_⟩) hHeld ?_ ?_
        rotate_left
        ·rintro w' ⟨s0, s1, s2, s3, s4, s5⟩
         go_simp; with_reducible rfl
        rotate_left
        ·simp only [Act.put, List.setIfInBounds_toArray, List.set_cons_zero, List.set_cons_succ, i64_w, i32_w]
         rfl
        refine one_ (i := 8) (N := some 25) #[true, true, true, true, true, true, true, true, true, false] rfl rfl (one_of HT_.out (by kernel_rfl)) (by decide) (fun K hK => ?_)
        refine goes_ Try.func122 (by kernel_rfl) rfl #[.agg #[.int .i16 ((rd_T118 l0 x5_1).f0.f0), .int .i16 ((rd_T118 l0 x5_1).f0.f1), .bool ((rd_T118 l0 x5_1).f1)], .agg #[.int .i16 ((rd_T118 l1 x5_1).f0.f0), .int .i16 ((rd_T118 l1 x5_1).f0.f1), .bool ((rd_T118 l1 x5_1).f1)]] (by rfl) rfl rfl a188_ ?_
        with_reducible refine (laws_eqStop.calls k1 ((rd_T118 l0 x5_1).f0.f0) ((rd_T118 l0 x5_1).f0.f1) ((rd_T118 l0 x5_1).f1) ((rd_T118 l1 x5_1).f0.f0) ((rd_T118 l1 x5_1).f0.f1) ((rd_T118 l1 x5_1).f1) true _ A7.out).mono ?_
        rintro e w10 ⟨rfl, hb⟩
        refine ⟨_, rfl, ?_⟩
        have n0_ := Aside0.mk (below_step a189_ hb)
        clear HB; have HB := n0_; clear n0_; (try clear hb); (try clear hb2); (try clear hk); (try clear hi)
        refine hK.out _ _ ⟨a181_, a182_, a183_, a184_, a185_, a186_⟩ (fun hHeld => ?_)
        clear hK K; refine norm_ (a' := ?_) ?_ ?_; rotate_left
        ·show Act.put _ (some 25) _ = _
         simp only [Act.put, List.setIfInBounds_toArray, List.set_cons_zero, List.set_cons_succ, i64_w, i32_w]
         rfl
        refine pure_ (i := 9) (N := some 26) (v := ?_) (a' := ?_) #[true, true, true, true, true, true, true, true, true, true] rfl rfl (any_of HT_.out (by kernel_rfl)) (fun _ _ _ h => h) (Or.inl ⟨by rfl, ?_⟩) ?_ ?_
        rotate_left
        ·intro w'
         go_simp; with_reducible rfl
        rotate_left
        ·simp only [Act.put, List.setIfInBounds_toArray, List.set_cons_zero, List.set_cons_succ, i64_w, i32_w]
         rfl
        refine done_ (done_of HT_.out (by kernel_rfl)) ?_
        try go_wp2
        go_roundg k1
        case measure => have := HK1.out; omega
        case rel => exact ⟨(wrap64 (x5_1 + 1)), (by first | rfl | (simp; done) | (simp [*]; done)), H', ⟨by have := HK1.out; omega⟩, ⟨by repeat (first | (with_reducible first | exact HB.out | apply below_alloc | apply pw_below_drewN | apply below_drew1) | exact HB.out)⟩⟩
       ·replace c8 := Bool.eq_false_iff.mpr c8
        subst c8
        have H1 : (some false) = some r := by rw [if_neg (show ¬ (false = true) by decide)] at H; exact H
        clear H
        have H := H1
        clear H1
        obtain rfl := Option.some.inj H
        try go_wp2
        have n0_ := Aside0.mk (below_drew1 HB.out)
        clear HB; have HB := n0_; clear n0_
        have p257 : 0 ≤ (x5_1 : Int) := of_decide_eq_true a187_
        have q257 : x5_1 < (l0.length : Int) := of_decide_eq_true a187_
        obtain ⟨ad257, e257, hx257_0, hx257_1, hx257_2⟩ := at_T118 HR0.out x5_1 p257 q257
        have hw257_2 := hx257_2
        have hw257_1 := hx257_1
        have hw257_0 := hx257_0
        cases e257
        replace hx257_0 := (HB.out.cell (World.block_lt_of_cell? w _ hx257_0)).trans hx257_0
        replace hx257_1 := (HB.out.cell (World.block_lt_of_cell? w _ hx257_1)).trans hx257_1
        replace hx257_2 := (HB.out.cell (World.block_lt_of_cell? w _ hx257_2)).trans hx257_2
        replace p257 := eq_true p257
        replace q257 := eq_true q257
        have p258 : 0 ≤ (x5_1 : Int) := of_decide_eq_true a187_
        have q258 : x5_1 < (l1.length : Int) := of_decide_eq_true a187_
        obtain ⟨ad258, e258, hx258_0, hx258_1, hx258_2⟩ := at_T118 HR1.out x5_1 p258 q258
        have hw258_2 := hx258_2
        have hw258_1 := hx258_1
        have hw258_0 := hx258_0
        cases e258
        replace hx258_0 := (HB.out.cell (World.block_lt_of_cell? w _ hx258_0)).trans hx258_0
        replace hx258_1 := (HB.out.cell (World.block_lt_of_cell? w _ hx258_1)).trans hx258_1
        replace hx258_2 := (HB.out.cell (World.block_lt_of_cell? w _ hx258_2)).trans hx258_2
        replace p258 := eq_true p258
        replace q258 := eq_true q258
        refine start_ (n := 10) (S := fun w' => w'.cell? (ad257.add ((x5_1).toNat * 3)) = some (.int .i16 ((rd_T118 l0 x5_1).f0.f0)) ∧ w'.cell? ⟨(ad257.add ((x5_1).toNat * 3)).block, (ad257.add ((x5_1).toNat * 3)).off + 1, none⟩ = some (.int .i16 ((rd_T118 l0 x5_1).f0.f1)) ∧ w'.cell? ⟨(ad257.add ((x5_1).toNat * 3)).block, (ad257.add ((x5_1).toNat * 3)).off + 2, none⟩ = some (.bool ((rd_T118 l0 x5_1).f1)) ∧ w'.cell? (ad258.add ((x5_1).toNat * 3)) = some (.int .i16 ((rd_T118 l1 x5_1).f0.f0)) ∧ w'.cell? ⟨(ad258.add ((x5_1).toNat * 3)).block, (ad258.add ((x5_1).toNat * 3)).off + 1, none⟩ = some (.int .i16 ((rd_T118 l1 x5_1).f0.f1)) ∧ w'.cell? ⟨(ad258.add ((x5_1).toNat * 3)).block, (ad258.add ((x5_1).toNat * 3)).off + 2, none⟩ = some (.bool ((rd_T118 l1 x5_1).f1))) (ds := []) #[false, false, false, false, false, false, false, false, false, false] (by kernel_rfl) rfl rfl ⟨a181_, a182_, a183_, a184_, a185_, a186_⟩ (fun hHeld => ?_); refine with_tabW laws_eqStopS.tab6 laws_eqStopS.bits6 (fun HT_ HW_ => ?_)
        generalize wr.drew = w11 at HB hx257_0 hx257_1 hx257_2 hx258_0 hx258_1 hx258_2 hHeld ⊢
        refine pure_ (i := 0) (N := some 17) (v := ?_) (a' := ?_) #[true, false, false, false, false, false, false, false, false, false] rfl rfl (any_of HT_.out (by kernel_rfl)) (fun _ _ _ h => h) (Or.inl ⟨by rfl, ?_⟩) ?_ ?_
        rotate_left
        ·intro w'
         go_simp; with_reducible rfl
        rotate_left
        ·simp only [Act.put, List.setIfInBounds_toArray, List.set_cons_zero, List.set_cons_succ, i64_w, i32_w]
         rfl
        refine pure_ (i := 1) (N := some 18) (v := ?_) (a' := ?_) #[true, true, false, false, false, false, false, false, false, false] rfl rfl (any_of HT_.out (by kernel_rfl)) (fun _ _ _ h => h) (Or.inl ⟨by rfl, ?_⟩) ?_ ?_
        rotate_left
        ·intro w'
         go_simp; with_reducible rfl
        rotate_left
        ·simp only [Act.put, List.setIfInBounds_toArray, List.set_cons_zero, List.set_cons_succ, i64_w, i32_w]
         rfl
        refine pure_ (i := 2) (N := some 19) (v := ?_) (a' := ?_) #[true, true, true, false, false, false, false, false, false, false] rfl rfl (any_of HT_.out (by kernel_rfl)) (fun _ _ _ h => h) (Or.inl ⟨by rfl, ?_⟩) ?_ ?_
        rotate_left
        ·intro w'
         go_simp; with_reducible rfl
        rotate_left
        ·simp only [Act.put, List.setIfInBounds_toArray, List.set_cons_zero, List.set_cons_succ, i64_w, i32_w]
         rfl
        refine pure_ (i := 4) (N := some 21) (v := ?_) (a' := ?_) #[true, true, true, false, true, false, false, false, false, false] rfl rfl (any_of HT_.out (by kernel_rfl)) (fun _ _ _ h => h) (Or.inl ⟨by rfl, ?_⟩) ?_ ?_
        rotate_left
        ·intro w'
         go_simp; with_reducible rfl
        rotate_left
        ·simp only [Act.put, List.setIfInBounds_toArray, List.set_cons_zero, List.set_cons_succ, i64_w, i32_w]
         rfl
        refine pure_ (i := 5) (N := some 22) (v := ?_) (a' := ?_) #[true, true, true, false, true, true, false, false, false, false] rfl rfl (any_of HT_.out (by kernel_rfl)) (fun _ _ _ h => h) (Or.inl ⟨by rfl, ?_⟩) ?_ ?_
        rotate_left
        ·intro w'
         go_simp; with_reducible rfl
        rotate_left
        ·simp only [Act.put, List.setIfInBounds_toArray, List.set_cons_zero, List.set_cons_succ, i64_w, i32_w]
         rfl
        refine pure_ (i := 6) (N := some 23) (v := ?_) (a' := ?_) #[true, true, true, false, true, true, true, false, false, false] rfl rfl (any_of HT_.out (by kernel_rfl)) (fun _ _ _ h => h) (Or.inl ⟨by rfl, ?_⟩) ?_ ?_
        rotate_left
        ·intro w'
         go_simp; with_reducible rfl
        rotate_left
        ·simp only [Act.put, List.setIfInBounds_toArray, List.set_cons_zero, List.set_cons_succ, i64_w, i32_w]
         rfl
        refine take_ (i := 3) (N := some 20) (v := ?_) (a' := ?_) #[true, true, true, true, true, true, true, false, false, false] rfl rfl (take_ofW HT_.out HW_.out (by kernel_rfl)) (fun _ _ _ h => h) (Or.inl ⟨by rfl, ?_⟩) hHeld ?_ ?_
        rotate_left
        ·rintro w' ⟨s0, s1, s2, s3, s4, s5⟩
         go_simp; with_reducible rfl
        rotate_left
        ·simp only [Act.put, List.setIfInBounds_toArray, List.set_cons_zero, List.set_cons_succ, i64_w, i32_w]
         rfl
        refine take_ (i := 7) (N := some 24) (v := ?_) (a' := ?_) #[true, true, true, true, true, true, true, true, false, false] rfl rfl (take_ofW HT_.out HW_.out (by kernel_rfl)) (fun _ _ _ h => h) (Or.inl ⟨by rfl, ?_⟩) hHeld ?_ ?_
        rotate_left
        ·rintro w' ⟨s0, s1, s2, s3, s4, s5⟩
         go_simp; with_reducible rfl
        rotate_left
        ·simp only [Act.put, List.setIfInBounds_toArray, List.set_cons_zero, List.set_cons_succ, i64_w, i32_w]
         rfl
        refine one_ (i := 8) (N := some 25) #[true, true, true, true, true, true, true, true, true, false] rfl rfl (one_of HT_.out (by kernel_rfl)) (by decide) (fun K hK => ?_)
        refine goes_ Try.func122 (by kernel_rfl) rfl #[.agg #[.int .i16 ((rd_T118 l0 x5_1).f0.f0), .int .i16 ((rd_T118 l0 x5_1).f0.f1), .bool ((rd_T118 l0 x5_1).f1)], .agg #[.int .i16 ((rd_T118 l1 x5_1).f0.f0), .int .i16 ((rd_T118 l1 x5_1).f0.f1), .bool ((rd_T118 l1 x5_1).f1)]] (by rfl) rfl rfl a188_ ?_
        with_reducible refine (laws_eqStop.calls k1 ((rd_T118 l0 x5_1).f0.f0) ((rd_T118 l0 x5_1).f0.f1) ((rd_T118 l0 x5_1).f1) ((rd_T118 l1 x5_1).f0.f0) ((rd_T118 l1 x5_1).f0.f1) ((rd_T118 l1 x5_1).f1) false _ A7.out).mono ?_
        rintro e w12 ⟨rfl, hb⟩
        refine ⟨_, rfl, ?_⟩
        have n0_ := Aside0.mk (below_step a189_ hb)
        clear HB; have HB := n0_; clear n0_; (try clear hb); (try clear hb2); (try clear hk); (try clear hi)
        refine hK.out _ _ ⟨a181_, a182_, a183_, a184_, a185_, a186_⟩ (fun hHeld => ?_)
        clear hK K; refine norm_ (a' := ?_) ?_ ?_; rotate_left
        ·show Act.put _ (some 25) _ = _
         simp only [Act.put, List.setIfInBounds_toArray, List.set_cons_zero, List.set_cons_succ, i64_w, i32_w]
         rfl
        refine pure_ (i := 9) (N := some 26) (v := ?_) (a' := ?_) #[true, true, true, true, true, true, true, true, true, true] rfl rfl (any_of HT_.out (by kernel_rfl)) (fun _ _ _ h => h) (Or.inl ⟨by rfl, ?_⟩) ?_ ?_
        rotate_left
        ·intro w'
         go_simp; with_reducible rfl
        rotate_left
        ·simp only [Act.put, List.setIfInBounds_toArray, List.set_cons_zero, List.set_cons_succ, i64_w, i32_w]
         rfl
        refine done_ (done_of HT_.out (by kernel_rfl)) ?_
        try go_wp2
        go_ret
        exact ⟨by first | rfl | (simp [errW_none, errW_some] <;> rfl) | (simp [*, errW_none, errW_some] <;> rfl), by repeat (first | (with_reducible first | exact HB.out | apply below_alloc | apply pw_below_drewN | apply below_drew1) | exact HB.out)⟩
      ·rw [if_neg c6] at H
       exact absurd H (by simp)
     ·rw [if_neg c5] at H
      exact absurd H (by simp)
    ·rw [if_neg c4] at H
     have c4b0 : decide (x5_1 < (l0.length : Int)) = false := decide_eq_false c4
     clear c4
     obtain rfl := Option.some.inj H
     go_wp2
     go_ret
     exact ⟨by first | rfl | (simp [errW_none, errW_some] <;> rfl) | (simp [*, errW_none, errW_some] <;> rfl), by repeat (first | (with_reducible first | exact HB.out | apply below_alloc | apply pw_below_drewN | apply below_drew1) | exact HB.out)⟩
 ·rw [if_neg c3] at H
  have c3b0 : ((l0.length : Int) == (l1.length : Int)) = false := beq_eq_false_iff_ne.mpr c3
  have c3b1 : ((l0.length : Int) != (l1.length : Int)) = true := bne_iff_ne.mpr c3
  have c3b2 : (l0.length == l1.length) = false := by first | simpa using c3 | (simp at c3 ⊢; omega)
  obtain rfl := Option.some.inj H
  go_enter Try.func55, Try.ntmps55
  go_wp2
  go_ret
  exact ⟨by first | rfl | (simp [errW_none, errW_some] <;> rfl) | (simp [*, errW_none, errW_some] <;> rfl), by repeat (first | (with_reducible first | exact HB.out | apply below_alloc | apply pw_below_drewN | apply below_drew1) | exact HB.out)⟩

/-! ### steps of laws_markStopS that come again: each is read where it is used -/
theorem a190_ {p : Prop} (h : p := by first | (with_reducible assumption) | assumption) : p := h
theorem a191_ {p : Prop} (h : p := by first | rfl | (simp; done) | (simp [*]; done)) : p := h
theorem a192_ {p : Prop} (h : p := by repeat (first | (with_reducible first | exact HK.out | apply Kept.alloc | apply Kept.drewN | apply Kept.drew) | exact HK.out)) : p := h
theorem a193_ {p : Prop} (h : p := by (with_reducible repeat (first | apply Kd.R_alloc | apply Kd.R_drewN | apply Kd.R_drew)); exact HO_0.out) : p := h

/-! ### laws_markStopS: function 56 -/
mutual
def laws_markStopS.l0 : Nat → List (S118) → Int → Int → Option (Int × (List (S118)))
  | 0, _, _, _ => none
  | k + 1, x0, x1, x5 => if x5 < (x0.length : Int) then (laws_markStopS.l1 k x0 x1 x5 0) else (some (x1, x0))
def laws_markStopS.l1 : Nat → List (S118) → Int → Int → Int → Option (Int × (List (S118)))
  | 0, _, _, _, _ => none
  | k + 1, x0, x1, x5, x6 => if x6 < 2 then (if 0 ≤ x5 then (if x5 < (x0.length : Int) then (if x6 = 0 then (laws_markStopS.l1 k (x0.set (x5 : Int).toNat (⟨(⟨IntKind.i16.wrap (x1), (rd_T118 x0 x5).f0.f1⟩ : S74), (rd_T118 x0 x5).f1⟩ : S118)) (wrap64 (x1 + 1)) x5 (wrap64 (x6 + 1))) else (if x6 = 1 then (laws_markStopS.l1 k (x0.set (x5 : Int).toNat (⟨(⟨(rd_T118 x0 x5).f0.f0, IntKind.i16.wrap (x1)⟩ : S74), (rd_T118 x0 x5).f1⟩ : S118)) (wrap64 (x1 + 1)) x5 (wrap64 (x6 + 1))) else (none))) else (none)) else (none)) else (if 0 ≤ x5 then (if x5 < (x0.length : Int) then (laws_markStopS.l0 k (x0.set (x5 : Int).toNat (⟨(⟨(rd_T118 x0 x5).f0.f0, (rd_T118 x0 x5).f0.f1⟩ : S74), ((Int.tmod x1 3) == 0)⟩ : S118)) (wrap64 (x1 + 1)) (wrap64 (x5 + 1))) else (none)) else (none))
end
def laws_markStopS.f (k : Nat) (l0 : List (S118)) (a1 : Int) : Option (Int × (List (S118))) := laws_markStopS.l0 k l0 a1 0
theorem laws_markStopS.mono_l : ∀ k, (∀ y0 y1 y2, LeO (laws_markStopS.l0 k y0 y1 y2) (laws_markStopS.l0 (k + 1) y0 y1 y2)) ∧ (∀ y0 y1 y2 y3, LeO (laws_markStopS.l1 k y0 y1 y2 y3) (laws_markStopS.l1 (k + 1) y0 y1 y2 y3))
  | 0 => ⟨fun _ _ _ r h => by simp [laws_markStopS.l0] at h, fun _ _ _ _ r h => by simp [laws_markStopS.l1] at h⟩
  | k + 1 => by
    obtain ⟨ih0, ih1⟩ := laws_markStopS.mono_l k
    refine ⟨?_, ?_⟩
    · intro y0 y1 y2
      unfold laws_markStopS.l0
      repeat' first
      | (with_reducible exact ih0 _ _ _)
      | (with_reducible exact ih1 _ _ _ _)
      | (with_reducible exact LeO.refl _)
      | (with_reducible exact LeO.none _)
      | (with_reducible refine LeO.ite ?_ ?_)
      | (with_reducible refine LeO.bind ?_ (fun _ => ?_))
      | exact ih0 _ _ _
      | exact ih1 _ _ _ _
      | exact LeO.none _
      | refine LeO.ite ?_ ?_
      | refine LeO.bind ?_ (fun _ => ?_)
    · intro y0 y1 y2 y3
      unfold laws_markStopS.l1
      repeat' first
      | (with_reducible exact ih0 _ _ _)
      | (with_reducible exact ih1 _ _ _ _)
      | (with_reducible exact LeO.refl _)
      | (with_reducible exact LeO.none _)
      | (with_reducible refine LeO.ite ?_ ?_)
      | (with_reducible refine LeO.bind ?_ (fun _ => ?_))
      | exact ih0 _ _ _
      | exact ih1 _ _ _ _
      | exact LeO.none _
      | refine LeO.ite ?_ ?_
      | refine LeO.bind ?_ (fun _ => ?_)
theorem laws_markStopS.mono : ∀ a0 a1 k, LeO (laws_markStopS.f k a0 a1) (laws_markStopS.f (k + 1) a0 a1) := by
  intro a0 a1 k
  obtain ⟨ih0, ih1⟩ := laws_markStopS.mono_l k
  unfold laws_markStopS.f
  repeat' first
      | (with_reducible exact ih0 _ _ _)
      | (with_reducible exact ih1 _ _ _ _)
      | (with_reducible exact LeO.refl _)
      | (with_reducible exact LeO.none _)
      | (with_reducible refine LeO.ite ?_ ?_)
      | (with_reducible refine LeO.bind ?_ (fun _ => ?_))
      | exact ih0 _ _ _
      | exact ih1 _ _ _ _
      | exact LeO.none _
      | refine LeO.ite ?_ ?_
      | refine LeO.bind ?_ (fun _ => ?_)
/-! ### laws_markStopS: what follows is its proof -/

set_option maxHeartbeats 8000000 in
set_option maxRecDepth 100000 in
theorem laws_markStopS.calls (k : Nat) (P0_ : Nat → Prop) (u9000_ : Value) (l0 : List (S118)) (a1 : Int) (r1 : Int) (r2 : List (S118)) (w0 w : World) (hB : Below w0.heap.size w0 w) (ho0 : Kd.R k118 118 w w0.heap.size P0_ u9000_ l0) (h : laws_markStopS.f k l0 a1 = some (r1, r2)) :
    Calls Try.prog 56 #[u9000_, .int .i64 a1] w fun e w' => e = .returned (.int .i64 r1) ∧ Kd.R k118 118 w' w0.heap.size (fun k_ => (P0_ k_ ∨ w.heap.size ≤ k_)) u9000_ r2 ∧ Below w0.heap.size w0 w' ∧ Kept w w' (fun k_ => P0_ k_) := by
 have hu118 := Try.underlying118
 have hu74 := Try.underlying74
 have HO0 := Aside0.mk (show Kd.R k118 118 w w0.heap.size (fun k_ => (P0_ k_ ∨ w.heap.size ≤ k_)) u9000_ l0 from Kd.R_mono ho0 (fun k_ hk => (.inl hk)))
 have HK := Aside0.mk (Kept.refl w (fun k_ => P0_ k_))
 have HW0 := Aside0.mk hB.size
 have HB := Aside0.mk hB
 clear hB
 have H : (laws_markStopS.l0 k l0 a1 0) = some (r1, r2) := h
 clear h
 have H' := Aside0.mk H
 clear H
 go_enter Try.func56, Try.ntmps56
 go_wp2
 go_loopg [1, 5] k (fun kq v1 v5 w' => ∃ (x0_1 : List (S118)) (x1_1 : Int) (x5_1 : Int), v1 = .int .i64 x1_1 ∧ v5 = .int .i64 x5_1 ∧ Aside0 (laws_markStopS.l0 kq x0_1 x1_1 x5_1 = some (r1, r2)) ∧ Aside0 (kq ≤ k) ∧ Aside0 (Kd.R k118 118 w' w0.heap.size (fun k_ => (P0_ k_ ∨ w.heap.size ≤ k_)) u9000_ x0_1) ∧ Aside0 (Kept w w' (fun k_ => P0_ k_)) ∧ Aside0 (Below w0.heap.size w0 w'))
 case atStart => exact ⟨(l0), (a1), (0), a191_, a191_, H', ⟨Nat.le_refl _⟩, ⟨by (with_reducible repeat (first | apply Kd.R_alloc | apply Kd.R_drewN | apply Kd.R_drew)); exact HO0.out⟩, ⟨by repeat (first | (with_reducible first | exact HK.out | apply Kept.alloc | apply Kept.drewN | apply Kept.drew) | exact HK.out)⟩, ⟨by repeat (first | (with_reducible first | exact HB.out | apply below_alloc | apply pw_below_drewN | apply below_drew1) | exact HB.out)⟩⟩
 case round =>
  clear H'
  try clear p2
  obtain ⟨x0_1, x1_1, x5_1, rfl, rfl, HA, HK1, HO_0, HK, HB⟩ := hrel
  cases gk with
  | zero => exact absurd HA.out (by simp [laws_markStopS.l0])
  | succ k1 =>
   have H := HA.out
   clear HA
   simp only [laws_markStopS.l0] at H
   by_cases c3 : x5_1 < (x0_1.length : Int)
   ·rw [if_pos c3] at H
    have c3b0 : decide (x5_1 < (x0_1.length : Int)) = true := decide_eq_true c3
    clear c3
    have H' := Aside0.mk H
    clear H
    obtain ⟨Ao4, co4, eo4⟩ := Kd.R_slice HO_0.out
    subst eo4
    go_wp2
    go_loopg [1, 6] k1 (fun kq v1 v6 w' => ∃ (x0_2 : List (S118)) (x1_2 : Int) (x6_2 : Int), v1 = .int .i64 x1_2 ∧ v6 = .int .i64 x6_2 ∧ Aside0 (laws_markStopS.l1 kq x0_2 x1_2 x5_1 x6_2 = some (r1, r2)) ∧ Aside0 (kq ≤ k1) ∧ Aside0 (Kd.R k118 118 w' w0.heap.size (fun k_ => (P0_ k_ ∨ w.heap.size ≤ k_)) (.slice Ao4 x0_1.length co4) x0_2) ∧ Aside0 (Kept w w' (fun k_ => P0_ k_)) ∧ Aside0 (Below w0.heap.size w0 w'))
    case atStart => exact ⟨(x0_1), (x1_1), (0), a191_, a191_, H', ⟨Nat.le_refl _⟩, ⟨by (with_reducible repeat (first | apply Kd.R_alloc | apply Kd.R_drewN | apply Kd.R_drew)); exact HO_0.out⟩, ⟨by repeat (first | (with_reducible first | exact HK.out | apply Kept.alloc | apply Kept.drewN | apply Kept.drew) | exact HK.out)⟩, ⟨by repeat (first | (with_reducible first | exact HB.out | apply below_alloc | apply pw_below_drewN | apply below_drew1) | exact HB.out)⟩⟩
    case round =>
     clear H'
     try clear p2
     try clear c3
     try clear c3b0
     try clear p2
     obtain ⟨x0_2, x1_2, x6_2, rfl, rfl, HA, HK2, HO_0, HK, HB⟩ := hrel
     have hl0_2 := (Kd.R_reads' HO_0.out).1
     rw [hl0_2] at HO_0
     (try simp only [hl0_2])
     cases gk with
     | zero => exact absurd HA.out (by simp [laws_markStopS.l1])
     | succ k2 =>
      have H := HA.out
      clear HA
      simp only [laws_markStopS.l1] at H
      by_cases c5 : x6_2 < 2
      ·rw [if_pos c5] at H
       have c5b0 : decide (x6_2 < 2) = true := decide_eq_true c5
       clear c5
       by_cases c6 : 0 ≤ x5_1
       ·rw [if_pos c6] at H
        have c6b0 : decide (0 ≤ x5_1) = true := decide_eq_true c6
        clear c6
        by_cases c7 : x5_1 < (x0_2.length : Int)
        ·rw [if_pos c7] at H
         have c7b0 : decide (x5_1 < (x0_2.length : Int)) = true := decide_eq_true c7
         clear c7
         by_cases c9 : x6_2 = 0
         ·rw [if_pos c9] at H
          have c9b0 : (x6_2 == 0) = true := beq_iff_eq.mpr c9
          have c9b1 : (x6_2 != 0) = false := bne_eq_false_iff_eq.mpr c9
          have c9b2 : (0 ≤ x6_2) = True := eq_true (by omega)
          have c9b3 : (x6_2 < 2) = True := eq_true (by omega)
          have c9b4 : Int.toNat x6_2 = 0 := by omega
          have c9b5 : wrap64 (x6_2 + 1) = x6_2 + 1 := by unfold wrap64; omega
          clear c9
          obtain ⟨y260, hy260⟩ : ∃ y_ : List (S118), y_ = (x0_2.set (x5_1 : Int).toNat (⟨(⟨IntKind.i16.wrap (x1_2), (rd_T118 x0_2 x5_1).f0.f1⟩ : S74), (rd_T118 x0_2 x5_1).f1⟩ : S118)) := ⟨_, rfl⟩
          replace H : (laws_markStopS.l1 k2 y260 (wrap64 (x1_2 + 1)) x5_1 (wrap64 (x6_2 + 1))) = some (r1, r2) := by first | (rw [hy260]; with_reducible exact H) | (have H2_ := (Option.bind_some _ _).symm.trans H; rw [hy260]; with_reducible exact H2_) | (have H2_ := (Option.bind_some _ _).symm.trans H; with_reducible exact H2_) | with_reducible exact H | (rw [hy260]; exact H) | exact H
          have Ny260 := Aside0.mk hy260
          clear hy260
          have H' := Aside0.mk H
          clear H
          have p8 : 0 ≤ (x5_1 : Int) := of_decide_eq_true a190_
          have q8 : (x5_1 : Int) < ((x0_2.length : Int) : Int) := of_decide_eq_true a190_
          obtain ⟨go8, co8, eo8, gb8, gl8, cl8, HG8⟩ := Kd.R_form HO_0.out (by omega)
          (first | cases eo8 | (injection eo8 with ea_ en_ ec_; (first | subst ea_ | (injection ea_ with ea_; subst ea_)); subst ec_; clear en_))
          have GB8 := Aside0.mk gb8
          have GG8 := Aside0.mk HG8
          clear gb8 gl8 HG8
          have HMgo8 := Aside0.mk (show (P0_ go8 ∨ w.heap.size ≤ go8) from (HO_0.out.1 _ rfl))
          obtain ⟨ce8, hcl8, hM8, hcc8, hfr8⟩ := Kd.R_elem HO_0.out z118 (x5_1 : Int) p8 q8
          obtain rfl := k118_openM hM8
          have hx8_0 : wr.cell? ⟨go8, (x5_1 : Int).toNat * 3, none⟩ = some (.int .i16 ((rd_T118 x0_2 x5_1).f0.f0)) := hcc8 0 _ rfl
          have hx8_1 : wr.cell? ⟨go8, (x5_1 : Int).toNat * 3 + 1, none⟩ = some (.int .i16 ((rd_T118 x0_2 x5_1).f0.f1)) := hcc8 1 _ rfl
          have hx8_2 : wr.cell? ⟨go8, (x5_1 : Int).toNat * 3 + 2, none⟩ = some (.bool ((rd_T118 x0_2 x5_1).f1)) := hcc8 2 _ rfl
          have hf8_0 : wr.frozen? ⟨go8, (x5_1 : Int).toNat * 3, none⟩ = false := hfr8 0
          have hf8_1 : wr.frozen? ⟨go8, (x5_1 : Int).toNat * 3 + 1, none⟩ = false := hfr8 1
          have hf8_2 : wr.frozen? ⟨go8, (x5_1 : Int).toNat * 3 + 2, none⟩ = false := hfr8 2
          clear hcl8 hcc8 hfr8 hM8
          replace p8 := eq_true p8
          replace q8 := eq_true q8
          have HX10 := Aside0.mk (show Kd.R k118 118 wr w0.heap.size (fun k_ => (P0_ k_ ∨ w.heap.size ≤ k_)) (.slice (some ⟨go8, 0, none⟩) x0_2.length co4) x0_2 from a193_)
          obtain ⟨ce10, hcl10, hM10, hcc10, hfr10⟩ := Kd.R_elem HX10.out z118 (x5_1 : Int) (of_decide_eq_true a190_) (by have h_ : (x5_1 : Int) < ((x0_2.length : Int) : Int) := of_decide_eq_true a190_; first | exact h_ | (have e_ := (Kd.R_reads' HO_0.out).1; omega) | simpa using h_)
          obtain rfl := k118_openM hM10
          have HP10 := Kd.R_seg HX10.out (x5_1 : Int) (of_decide_eq_true a190_) (by have h_ : (x5_1 : Int) < ((x0_2.length : Int) : Int) := of_decide_eq_true a190_; first | exact h_ | (have e_ := (Kd.R_reads' HO_0.out).1; omega) | simpa using h_) (seg := [.int .i16 (IntKind.i16.wrap (x1_2))]) (j := 0) hcl10 hcc10 (show 1 ≤ 3 from by decide) (x' := (⟨(⟨IntKind.i16.wrap (x1_2), (rd_T118 x0_2 x5_1).f0.f1⟩ : S74), (rd_T118 x0_2 x5_1).f1⟩ : S118)) (k118_mkM _ _ _ (⟨(⟨IntKind.i16.wrap (x1_2), (rd_T118 x0_2 x5_1).f0.f1⟩ : S74), (rd_T118 x0_2 x5_1).f1⟩ : S118) ) (fun _ hk => hk)
          have hx10_0 := hcc10 0 _ rfl
          (try simp only [show (k118).sz = 3 from rfl, Nat.mul_one, Nat.add_zero] at hx10_0)
          have hf10_0 := hfr10 0
          (try simp only [show (k118).sz = 3 from rfl, Nat.mul_one, Nat.add_zero] at hf10_0)
          clear hcl10 hcc10 hfr10 hM10
          go_wp2_with (first | ((with_reducible refine gate_store (t := 38) (p := 24) rfl ?_); refine store_event (t := 38) (p := 24) (v := ?vo_w11) (w1 := (wr.setCell ⟨go8, (x5_1 : Int).toNat * 3, none⟩ (.int .i16 (IntKind.i16.wrap (x1_2))))) ?hg ?ho ?hn ?hr ?_; (case ho => rfl); (case hg => rfl); (case hn => rfl); (case hr => first | (go_simp; done) | (go_simp; rfl)); intro w11 hw; have hg : wr.grownBy w11 (some go8) := (by rw [hw]; exact HP10.2); have hp_ : Kd.R k118 118 w11 w0.heap.size (fun k_ => (P0_ k_ ∨ w.heap.size ≤ k_)) (.slice (some ⟨go8, 0, none⟩) x0_2.length co4) y260 := (by rw [hw, Ny260.out]; exact HP10.1); clear HP10; have n0_ := Aside0.mk (hp_); have n1_ := Aside0.mk ((by rw [hw]; exact below_set (HB.out) GB8.out : Below w0.heap.size w0 w11)); have n2_ := Aside0.mk (Kept.of_grown (S := (fun k_ => P0_ k_)) hg a192_ (fun k_ e_ => (HO_0.out.1 k_ e_))); clear HO_0; clear HB; clear HK; have HO_0 := n0_; have HB := n1_; have HK := n2_; clear n0_ n1_ n2_; clear hg hw hp_))
          (try simp only [← hl0_2])
          go_roundg k2
          case measure => have := HK1.out; have := HK2.out; omega
          case rel => exact ⟨(y260), (wrap64 (x1_2 + 1)), (wrap64 (x6_2 + 1)), a191_, a191_, H', ⟨by have := HK1.out; have := HK2.out; omega⟩, ⟨by (try simp only [hl0_2]); (with_reducible repeat (first | apply Kd.R_alloc | apply Kd.R_drewN | apply Kd.R_drew)); exact HO_0.out⟩, ⟨by repeat (first | (with_reducible first | exact HK.out | apply Kept.alloc | apply Kept.drewN | apply Kept.drew) | exact HK.out)⟩, ⟨by repeat (first | (with_reducible first | exact HB.out | apply below_alloc | apply pw_below_drewN | apply below_drew1) | exact HB.out)⟩⟩
         ·rw [if_neg c9] at H
          have c9b0 : (x6_2 == 0) = false := beq_eq_false_iff_ne.mpr c9
          have c9b1 : (x6_2 != 0) = true := bne_iff_ne.mpr c9
          by_cases c12 : x6_2 = 1
          ·rw [if_pos c12] at H
           have c12b0 : (x6_2 == 1) = true := beq_iff_eq.mpr c12
           have c12b1 : (x6_2 != 1) = false := bne_eq_false_iff_eq.mpr c12
           have c12b2 : (0 ≤ x6_2) = True := eq_true (by omega)
           have c12b3 : (x6_2 < 2) = True := eq_true (by omega)
           have c12b4 : Int.toNat x6_2 = 1 := by omega
           have c12b5 : wrap64 (x6_2 + 1) = x6_2 + 1 := by unfold wrap64; omega
           clear c12
           obtain ⟨y261, hy261⟩ : ∃ y_ : List (S118), y_ = (x0_2.set (x5_1 : Int).toNat (⟨(⟨(rd_T118 x0_2 x5_1).f0.f0, IntKind.i16.wrap (x1_2)⟩ : S74), (rd_T118 x0_2 x5_1).f1⟩ : S118)) := ⟨_, rfl⟩
           replace H : (laws_markStopS.l1 k2 y261 (wrap64 (x1_2 + 1)) x5_1 (wrap64 (x6_2 + 1))) = some (r1, r2) := by first | (rw [hy261]; with_reducible exact H) | (have H2_ := (Option.bind_some _ _).symm.trans H; rw [hy261]; with_reducible exact H2_) | (have H2_ := (Option.bind_some _ _).symm.trans H; with_reducible exact H2_) | with_reducible exact H | (rw [hy261]; exact H) | exact H
           have Ny261 := Aside0.mk hy261
           clear hy261
           have H' := Aside0.mk H
           clear H
           have p8 : 0 ≤ (x5_1 : Int) := of_decide_eq_true a190_
           have q8 : (x5_1 : Int) < ((x0_2.length : Int) : Int) := of_decide_eq_true a190_
           obtain ⟨go8, co8, eo8, gb8, gl8, cl8, HG8⟩ := Kd.R_form HO_0.out (by omega)
           (first | cases eo8 | (injection eo8 with ea_ en_ ec_; (first | subst ea_ | (injection ea_ with ea_; subst ea_)); subst ec_; clear en_))
           have GB8 := Aside0.mk gb8
           have GG8 := Aside0.mk HG8
           clear gb8 gl8 HG8
           have HMgo8 := Aside0.mk (show (P0_ go8 ∨ w.heap.size ≤ go8) from (HO_0.out.1 _ rfl))
           obtain ⟨ce8, hcl8, hM8, hcc8, hfr8⟩ := Kd.R_elem HO_0.out z118 (x5_1 : Int) p8 q8
           obtain rfl := k118_openM hM8
           have hx8_0 : wr.cell? ⟨go8, (x5_1 : Int).toNat * 3, none⟩ = some (.int .i16 ((rd_T118 x0_2 x5_1).f0.f0)) := hcc8 0 _ rfl
           have hx8_1 : wr.cell? ⟨go8, (x5_1 : Int).toNat * 3 + 1, none⟩ = some (.int .i16 ((rd_T118 x0_2 x5_1).f0.f1)) := hcc8 1 _ rfl
           have hx8_2 : wr.cell? ⟨go8, (x5_1 : Int).toNat * 3 + 2, none⟩ = some (.bool ((rd_T118 x0_2 x5_1).f1)) := hcc8 2 _ rfl
           have hf8_0 : wr.frozen? ⟨go8, (x5_1 : Int).toNat * 3, none⟩ = false := hfr8 0
           have hf8_1 : wr.frozen? ⟨go8, (x5_1 : Int).toNat * 3 + 1, none⟩ = false := hfr8 1
           have hf8_2 : wr.frozen? ⟨go8, (x5_1 : Int).toNat * 3 + 2, none⟩ = false := hfr8 2
           clear hcl8 hcc8 hfr8 hM8
           replace p8 := eq_true p8
           replace q8 := eq_true q8
           have HX13 := Aside0.mk (show Kd.R k118 118 wr w0.heap.size (fun k_ => (P0_ k_ ∨ w.heap.size ≤ k_)) (.slice (some ⟨go8, 0, none⟩) x0_2.length co4) x0_2 from a193_)
           obtain ⟨ce13, hcl13, hM13, hcc13, hfr13⟩ := Kd.R_elem HX13.out z118 (x5_1 : Int) (of_decide_eq_true a190_) (by have h_ : (x5_1 : Int) < ((x0_2.length : Int) : Int) := of_decide_eq_true a190_; first | exact h_ | (have e_ := (Kd.R_reads' HO_0.out).1; omega) | simpa using h_)
           obtain rfl := k118_openM hM13
           have HP13 := Kd.R_seg HX13.out (x5_1 : Int) (of_decide_eq_true a190_) (by have h_ : (x5_1 : Int) < ((x0_2.length : Int) : Int) := of_decide_eq_true a190_; first | exact h_ | (have e_ := (Kd.R_reads' HO_0.out).1; omega) | simpa using h_) (seg := [.int .i16 (IntKind.i16.wrap (x1_2))]) (j := 1) hcl13 hcc13 (show 2 ≤ 3 from by decide) (x' := (⟨(⟨(rd_T118 x0_2 x5_1).f0.f0, IntKind.i16.wrap (x1_2)⟩ : S74), (rd_T118 x0_2 x5_1).f1⟩ : S118)) (k118_mkM _ _ _ (⟨(⟨(rd_T118 x0_2 x5_1).f0.f0, IntKind.i16.wrap (x1_2)⟩ : S74), (rd_T118 x0_2 x5_1).f1⟩ : S118) ) (fun _ hk => hk)
           have hx13_1 := hcc13 1 _ rfl
           (try simp only [show (k118).sz = 3 from rfl, Nat.mul_one, Nat.add_zero] at hx13_1)
           have hf13_1 := hfr13 1
           (try simp only [show (k118).sz = 3 from rfl, Nat.mul_one, Nat.add_zero] at hf13_1)
           clear hcl13 hcc13 hfr13 hM13
           go_wp2_with (first | ((with_reducible refine gate_store (t := 38) (p := 24) rfl ?_); refine store_event (t := 38) (p := 24) (v := ?vo_w14) (w1 := (wr.setCell ⟨go8, (x5_1 : Int).toNat * 3 + 1, none⟩ (.int .i16 (IntKind.i16.wrap (x1_2))))) ?hg ?ho ?hn ?hr ?_; (case ho => rfl); (case hg => rfl); (case hn => rfl); (case hr => first | (go_simp; done) | (go_simp; rfl)); intro w14 hw; have hg : wr.grownBy w14 (some go8) := (by rw [hw]; exact HP13.2); have hp_ : Kd.R k118 118 w14 w0.heap.size (fun k_ => (P0_ k_ ∨ w.heap.size ≤ k_)) (.slice (some ⟨go8, 0, none⟩) x0_2.length co4) y261 := (by rw [hw, Ny261.out]; exact HP13.1); clear HP13; have n0_ := Aside0.mk (hp_); have n1_ := Aside0.mk ((by rw [hw]; exact below_set (HB.out) GB8.out : Below w0.heap.size w0 w14)); have n2_ := Aside0.mk (Kept.of_grown (S := (fun k_ => P0_ k_)) hg a192_ (fun k_ e_ => (HO_0.out.1 k_ e_))); clear HO_0; clear HB; clear HK; have HO_0 := n0_; have HB := n1_; have HK := n2_; clear n0_ n1_ n2_; clear hg hw hp_))
           (try simp only [← hl0_2])
           go_roundg k2
           case measure => have := HK1.out; have := HK2.out; omega
           case rel => exact ⟨(y261), (wrap64 (x1_2 + 1)), (wrap64 (x6_2 + 1)), a191_, a191_, H', ⟨by have := HK1.out; have := HK2.out; omega⟩, ⟨by (try simp only [hl0_2]); (with_reducible repeat (first | apply Kd.R_alloc | apply Kd.R_drewN | apply Kd.R_drew)); exact HO_0.out⟩, ⟨by repeat (first | (with_reducible first | exact HK.out | apply Kept.alloc | apply Kept.drewN | apply Kept.drew) | exact HK.out)⟩, ⟨by repeat (first | (with_reducible first | exact HB.out | apply below_alloc | apply pw_below_drewN | apply below_drew1) | exact HB.out)⟩⟩
          ·rw [if_neg c12] at H
           exact absurd H (by simp)
        ·rw [if_neg c7] at H
         exact absurd H (by simp)
       ·rw [if_neg c6] at H
        exact absurd H (by simp)
      ·rw [if_neg c5] at H
       have c5b0 : decide (x6_2 < 2) = false := decide_eq_false c5
       clear c5
       by_cases c15 : 0 ≤ x5_1
       ·rw [if_pos c15] at H
        have c15b0 : decide (0 ≤ x5_1) = true := decide_eq_true c15
        clear c15
        by_cases c16 : x5_1 < (x0_2.length : Int)
        ·rw [if_pos c16] at H
         have c16b0 : decide (x5_1 < (x0_2.length : Int)) = true := decide_eq_true c16
         clear c16
         obtain ⟨y262, hy262⟩ : ∃ y_ : List (S118), y_ = (x0_2.set (x5_1 : Int).toNat (⟨(⟨(rd_T118 x0_2 x5_1).f0.f0, (rd_T118 x0_2 x5_1).f0.f1⟩ : S74), ((Int.tmod x1_2 3) == 0)⟩ : S118)) := ⟨_, rfl⟩
         replace H : (laws_markStopS.l0 k2 y262 (wrap64 (x1_2 + 1)) (wrap64 (x5_1 + 1))) = some (r1, r2) := by first | (rw [hy262]; with_reducible exact H) | (have H2_ := (Option.bind_some _ _).symm.trans H; rw [hy262]; with_reducible exact H2_) | (have H2_ := (Option.bind_some _ _).symm.trans H; with_reducible exact H2_) | with_reducible exact H | (rw [hy262]; exact H) | exact H
         have Ny262 := Aside0.mk hy262
         clear hy262
         have H' := Aside0.mk H
         clear H
         have p17 : 0 ≤ (x5_1 : Int) := of_decide_eq_true a190_
         have q17 : (x5_1 : Int) < ((x0_2.length : Int) : Int) := of_decide_eq_true a190_
         obtain ⟨go17, co17, eo17, gb17, gl17, cl17, HG17⟩ := Kd.R_form HO_0.out (by omega)
         (first | cases eo17 | (injection eo17 with ea_ en_ ec_; (first | subst ea_ | (injection ea_ with ea_; subst ea_)); subst ec_; clear en_))
         have GB17 := Aside0.mk gb17
         have GG17 := Aside0.mk HG17
         clear gb17 gl17 HG17
         have HMgo17 := Aside0.mk (show (P0_ go17 ∨ w.heap.size ≤ go17) from (HO_0.out.1 _ rfl))
         obtain ⟨ce17, hcl17, hM17, hcc17, hfr17⟩ := Kd.R_elem HO_0.out z118 (x5_1 : Int) p17 q17
         obtain rfl := k118_openM hM17
         have hx17_0 : wr.cell? ⟨go17, (x5_1 : Int).toNat * 3, none⟩ = some (.int .i16 ((rd_T118 x0_2 x5_1).f0.f0)) := hcc17 0 _ rfl
         have hx17_1 : wr.cell? ⟨go17, (x5_1 : Int).toNat * 3 + 1, none⟩ = some (.int .i16 ((rd_T118 x0_2 x5_1).f0.f1)) := hcc17 1 _ rfl
         have hx17_2 : wr.cell? ⟨go17, (x5_1 : Int).toNat * 3 + 2, none⟩ = some (.bool ((rd_T118 x0_2 x5_1).f1)) := hcc17 2 _ rfl
         have hf17_0 : wr.frozen? ⟨go17, (x5_1 : Int).toNat * 3, none⟩ = false := hfr17 0
         have hf17_1 : wr.frozen? ⟨go17, (x5_1 : Int).toNat * 3 + 1, none⟩ = false := hfr17 1
         have hf17_2 : wr.frozen? ⟨go17, (x5_1 : Int).toNat * 3 + 2, none⟩ = false := hfr17 2
         clear hcl17 hcc17 hfr17 hM17
         replace p17 := eq_true p17
         replace q17 := eq_true q17
         have HX18 := Aside0.mk (show Kd.R k118 118 wr w0.heap.size (fun k_ => (P0_ k_ ∨ w.heap.size ≤ k_)) (.slice (some ⟨go17, 0, none⟩) x0_2.length co4) x0_2 from a193_)
         obtain ⟨ce18, hcl18, hM18, hcc18, hfr18⟩ := Kd.R_elem HX18.out z118 (x5_1 : Int) (of_decide_eq_true a190_) (by have h_ : (x5_1 : Int) < ((x0_2.length : Int) : Int) := of_decide_eq_true a190_; first | exact h_ | (have e_ := (Kd.R_reads' HO_0.out).1; omega) | simpa using h_)
         obtain rfl := k118_openM hM18
         have HP18 := Kd.R_seg HX18.out (x5_1 : Int) (of_decide_eq_true a190_) (by have h_ : (x5_1 : Int) < ((x0_2.length : Int) : Int) := of_decide_eq_true a190_; first | exact h_ | (have e_ := (Kd.R_reads' HO_0.out).1; omega) | simpa using h_) (seg := [.bool ((Int.tmod x1_2 3) == 0)]) (j := 2) hcl18 hcc18 (show 3 ≤ 3 from by decide) (x' := (⟨(⟨(rd_T118 x0_2 x5_1).f0.f0, (rd_T118 x0_2 x5_1).f0.f1⟩ : S74), ((Int.tmod x1_2 3) == 0)⟩ : S118)) (k118_mkM _ _ _ (⟨(⟨(rd_T118 x0_2 x5_1).f0.f0, (rd_T118 x0_2 x5_1).f0.f1⟩ : S74), ((Int.tmod x1_2 3) == 0)⟩ : S118) ) (fun _ hk => hk)
         have hx18_2 := hcc18 2 _ rfl
         (try simp only [show (k118).sz = 3 from rfl, Nat.mul_one, Nat.add_zero] at hx18_2)
         have hf18_2 := hfr18 2
         (try simp only [show (k118).sz = 3 from rfl, Nat.mul_one, Nat.add_zero] at hf18_2)
         clear hcl18 hcc18 hfr18 hM18
         go_wp2_with (first | ((with_reducible refine gate_store (t := 4) (p := 33) rfl ?_); refine store_event (t := 4) (p := 33) (v := ?vo_w19) (w1 := (wr.setCell ⟨go17, (x5_1 : Int).toNat * 3 + 2, none⟩ (.bool ((Int.tmod x1_2 3) == 0)))) ?hg ?ho ?hn ?hr ?_; (case ho => rfl); (case hg => rfl); (case hn => rfl); (case hr => first | (go_simp; done) | (go_simp; rfl)); intro w19 hw; have hg : wr.grownBy w19 (some go17) := (by rw [hw]; exact HP18.2); have hp_ : Kd.R k118 118 w19 w0.heap.size (fun k_ => (P0_ k_ ∨ w.heap.size ≤ k_)) (.slice (some ⟨go17, 0, none⟩) x0_2.length co4) y262 := (by rw [hw, Ny262.out]; exact HP18.1); clear HP18; have n0_ := Aside0.mk (hp_); have n1_ := Aside0.mk ((by rw [hw]; exact below_set (HB.out) GB17.out : Below w0.heap.size w0 w19)); have n2_ := Aside0.mk (Kept.of_grown (S := (fun k_ => P0_ k_)) hg a192_ (fun k_ e_ => (HO_0.out.1 k_ e_))); clear HO_0; clear HB; clear HK; have HO_0 := n0_; have HB := n1_; have HK := n2_; clear n0_ n1_ n2_; clear hg hw hp_))
         (try simp only [← hl0_2])
         go_roundg k2
         case measure => have := HK1.out; have := HK2.out; omega
         case rel => exact ⟨(y262), (wrap64 (x1_2 + 1)), (wrap64 (x5_1 + 1)), a191_, a191_, H', ⟨by have := HK1.out; have := HK2.out; omega⟩, ⟨by (try simp only [hl0_2]); (with_reducible repeat (first | apply Kd.R_alloc | apply Kd.R_drewN | apply Kd.R_drew)); exact HO_0.out⟩, ⟨by repeat (first | (with_reducible first | exact HK.out | apply Kept.alloc | apply Kept.drewN | apply Kept.drew) | exact HK.out)⟩, ⟨by repeat (first | (with_reducible first | exact HB.out | apply below_alloc | apply pw_below_drewN | apply below_drew1) | exact HB.out)⟩⟩
        ·rw [if_neg c16] at H
         exact absurd H (by simp)
       ·rw [if_neg c15] at H
        exact absurd H (by simp)
   ·rw [if_neg c3] at H
    have c3b0 : decide (x5_1 < (x0_1.length : Int)) = false := decide_eq_false c3
    clear c3
    simp only [Option.some.injEq, Prod.mk.injEq] at H
    obtain ⟨rfl, rfl⟩ := H
    obtain ⟨Ao20, co20, eo20⟩ := Kd.R_slice HO_0.out
    subst eo20
    go_wp2
    go_ret
    exact ⟨by first | rfl | (simp [errW_none, errW_some] <;> rfl) | (simp [*, errW_none, errW_some] <;> rfl), by (with_reducible repeat (first | apply Kd.R_alloc | apply Kd.R_drewN | apply Kd.R_drew)); exact HO_0.out, by repeat (first | (with_reducible first | exact HB.out | apply below_alloc | apply pw_below_drewN | apply below_drew1) | exact HB.out), by repeat (first | (with_reducible first | exact HK.out | apply Kept.alloc | apply Kept.drewN | apply Kept.drew) | exact HK.out)⟩

/-! ### steps of laws_FnExactMachineFor that come again: each is read where it is used -/
theorem a194_ {p : Prop} (h : p := by repeat (first | (with_reducible first | exact HB.out | apply below_alloc | apply pw_below_drewN | apply below_drew1 | refine below_set ?_ GE277.out | refine below_set ?_ GE291.out) | exact HB.out)) : p := h
theorem a195_ {p : Prop} (h : p := by (try simp only [List.map_toArray, List.map_cons, List.map_nil]); first | done | rfl | (simp only [List.length_drop, List.length_take]; rfl)) : p := h
theorem a196_ {p : Prop} (h : p := by (with_reducible repeat (first | refine blk_drewN ?_ _ | refine blk_drew ?_ | refine blk_alloc ?_ _)); exact BK277.out) : p := h
theorem a197_ {p : Prop} (h : p := by (with_reducible repeat (first | refine blk_drewN ?_ _ | refine blk_drew ?_ | refine blk_alloc ?_ _)); exact BK291.out) : p := h
theorem a198_ {p : Prop} (h : p := by (with_reducible repeat (first | apply Kd.R_alloc | apply Kd.R_drewN | apply Kd.R_drew)); exact HO_278000.out) : p := h
theorem a199_ {p : Prop} (h : p := by (with_reducible repeat (first | apply Kd.R_alloc | apply Kd.R_drewN | apply Kd.R_drew)); exact HO_278001.out) : p := h
theorem a200_ {p : Prop} (h : p := by (with_reducible repeat (first | apply Kd.R_alloc | apply Kd.R_drewN | apply Kd.R_drew)); exact HO_278002.out) : p := h
theorem a201_ {p : Prop} (h : p := by (with_reducible repeat (first | apply Kd.R_alloc | apply Kd.R_drewN | apply Kd.R_drew)); exact HO_292000.out) : p := h
theorem a202_ {p : Prop} (h : p := by (with_reducible repeat (first | apply Kd.R_alloc | apply Kd.R_drewN | apply Kd.R_drew)); exact HO_292001.out) : p := h
theorem a203_ {p : Prop} (h : p := by (with_reducible repeat (first | apply Kd.R_alloc | apply Kd.R_drewN | apply Kd.R_drew)); exact HO_292002.out) : p := h
theorem a204_ {p : Prop} (h : p := by (with_reducible repeat (first | apply Kd.R_alloc | apply Kd.R_drewN | apply Kd.R_drew)); exact (Kd.R_mono (Kd.R_far (p := ⟨gb318, 2, none⟩) (Kd.R_far (p := ⟨gb318, 1, none⟩) (Kd.R_far (p := ⟨gb318, 0, none⟩) (Kd.R_types HO_278000.out BK318.out (by decide)) (fun _ hk => hk.2) (.slice Ao80 t308.length co80)) (fun _ hk => hk.2) (.slice Ao84 t311.length co84)) (fun _ hk => hk.2) (.slice Ao85 t314.length co85)) (fun _ h_ => h_.1))) : p := h
theorem a205_ {p : Prop} (h : p := by (with_reducible repeat (first | apply Kd.R_alloc | apply Kd.R_drewN | apply Kd.R_drew)); exact (Kd.R_mono (Kd.R_far (p := ⟨gb318, 2, none⟩) (Kd.R_far (p := ⟨gb318, 1, none⟩) (Kd.R_far (p := ⟨gb318, 0, none⟩) (Kd.R_types HO_278001.out BK318.out (by decide)) (fun _ hk => hk.2) (.slice Ao80 t308.length co80)) (fun _ hk => hk.2) (.slice Ao84 t311.length co84)) (fun _ hk => hk.2) (.slice Ao85 t314.length co85)) (fun _ h_ => h_.1))) : p := h
theorem a206_ {p : Prop} (h : p := by (with_reducible repeat (first | apply Kd.R_alloc | apply Kd.R_drewN | apply Kd.R_drew)); exact (Kd.R_mono (Kd.R_far (p := ⟨gb318, 2, none⟩) (Kd.R_far (p := ⟨gb318, 1, none⟩) (Kd.R_far (p := ⟨gb318, 0, none⟩) (Kd.R_types HO_278002.out BK318.out (by decide)) (fun _ hk => hk.2) (.slice Ao80 t308.length co80)) (fun _ hk => hk.2) (.slice Ao84 t311.length co84)) (fun _ hk => hk.2) (.slice Ao85 t314.length co85)) (fun _ h_ => h_.1))) : p := h
theorem a207_ {p : Prop} (h : p := by (with_reducible repeat (first | apply Kd.R_alloc | apply Kd.R_drewN | apply Kd.R_drew)); exact (Kd.R_mono (Kd.R_far (p := ⟨gb291, 2, none⟩) (Kd.R_far (p := ⟨gb291, 1, none⟩) (Kd.R_far (p := ⟨gb291, 0, none⟩) (Kd.R_types HO283.out BK291.out (by decide)) (fun _ hk => hk.2) (.slice Ao22 t281.length co22)) (fun _ hk => hk.2) (.slice Ao25 t284.length co25)) (fun _ hk => hk.2) (.slice Ao26 t287.length co26)) (fun _ h_ => h_.1))) : p := h
theorem a208_ {p : Prop} (h : p := by (with_reducible repeat (first | apply Kd.R_alloc | apply Kd.R_drewN | apply Kd.R_drew)); exact (Kd.R_mono (Kd.R_far (p := ⟨gb291, 2, none⟩) (Kd.R_far (p := ⟨gb291, 1, none⟩) (Kd.R_far (p := ⟨gb291, 0, none⟩) (Kd.R_types HO286.out BK291.out (by decide)) (fun _ hk => hk.2) (.slice Ao22 t281.length co22)) (fun _ hk => hk.2) (.slice Ao25 t284.length co25)) (fun _ hk => hk.2) (.slice Ao26 t287.length co26)) (fun _ h_ => h_.1))) : p := h
theorem a209_ {p : Prop} (h : p := by (with_reducible repeat (first | apply Kd.R_alloc | apply Kd.R_drewN | apply Kd.R_drew)); exact (Kd.R_mono (Kd.R_far (p := ⟨gb291, 2, none⟩) (Kd.R_far (p := ⟨gb291, 1, none⟩) (Kd.R_far (p := ⟨gb291, 0, none⟩) (Kd.R_types HO289.out BK291.out (by decide)) (fun _ hk => hk.2) (.slice Ao22 t281.length co22)) (fun _ hk => hk.2) (.slice Ao25 t284.length co25)) (fun _ hk => hk.2) (.slice Ao26 t287.length co26)) (fun _ h_ => h_.1))) : p := h
theorem a210_ {p : Prop} (h : p := by (with_reducible repeat (first | apply Kd.R_alloc | apply Kd.R_drewN | apply Kd.R_drew)); exact (Kd.R_mono (Kd.R_far (p := ⟨gb291, 2, none⟩) (Kd.R_far (p := ⟨gb291, 1, none⟩) (Kd.R_far (p := ⟨gb291, 0, none⟩) (Kd.R_types HO269.out BK291.out (by decide)) (fun _ hk => hk.2) (.slice Ao22 t281.length co22)) (fun _ hk => hk.2) (.slice Ao25 t284.length co25)) (fun _ hk => hk.2) (.slice Ao26 t287.length co26)) (fun _ h_ => h_.1))) : p := h
theorem a211_ {p : Prop} (h : p := by (with_reducible repeat (first | apply Kd.R_alloc | apply Kd.R_drewN | apply Kd.R_drew)); exact (Kd.R_mono (Kd.R_far (p := ⟨gb291, 2, none⟩) (Kd.R_far (p := ⟨gb291, 1, none⟩) (Kd.R_far (p := ⟨gb291, 0, none⟩) (Kd.R_types HO272.out BK291.out (by decide)) (fun _ hk => hk.2) (.slice Ao22 t281.length co22)) (fun _ hk => hk.2) (.slice Ao25 t284.length co25)) (fun _ hk => hk.2) (.slice Ao26 t287.length co26)) (fun _ h_ => h_.1))) : p := h
theorem a212_ {p : Prop} (h : p := by (with_reducible repeat (first | apply Kd.R_alloc | apply Kd.R_drewN | apply Kd.R_drew)); exact (Kd.R_mono (Kd.R_far (p := ⟨gb291, 2, none⟩) (Kd.R_far (p := ⟨gb291, 1, none⟩) (Kd.R_far (p := ⟨gb291, 0, none⟩) (Kd.R_types HO275.out BK291.out (by decide)) (fun _ hk => hk.2) (.slice Ao22 t281.length co22)) (fun _ hk => hk.2) (.slice Ao25 t284.length co25)) (fun _ hk => hk.2) (.slice Ao26 t287.length co26)) (fun _ h_ => h_.1))) : p := h
theorem a213_ {p : Prop} (h : p := by (with_reducible repeat (first | apply Kd.R_alloc | apply Kd.R_drewN | apply Kd.R_drew)); exact (Kd.R_mono (Kd.R_far (p := ⟨gb318, 2, none⟩) (Kd.R_far (p := ⟨gb318, 1, none⟩) (Kd.R_far (p := ⟨gb318, 0, none⟩) (Kd.R_types HO310.out BK318.out (by decide)) (fun _ hk => hk.2) (.slice Ao80 t308.length co80)) (fun _ hk => hk.2) (.slice Ao84 t311.length co84)) (fun _ hk => hk.2) (.slice Ao85 t314.length co85)) (fun _ h_ => h_.1))) : p := h
theorem a214_ {p : Prop} (h : p := by (with_reducible repeat (first | apply Kd.R_alloc | apply Kd.R_drewN | apply Kd.R_drew)); exact (Kd.R_mono (Kd.R_far (p := ⟨gb318, 2, none⟩) (Kd.R_far (p := ⟨gb318, 1, none⟩) (Kd.R_far (p := ⟨gb318, 0, none⟩) (Kd.R_types HO313.out BK318.out (by decide)) (fun _ hk => hk.2) (.slice Ao80 t308.length co80)) (fun _ hk => hk.2) (.slice Ao84 t311.length co84)) (fun _ hk => hk.2) (.slice Ao85 t314.length co85)) (fun _ h_ => h_.1))) : p := h
theorem a215_ {p : Prop} (h : p := by (with_reducible repeat (first | apply Kd.R_alloc | apply Kd.R_drewN | apply Kd.R_drew)); exact (Kd.R_mono (Kd.R_far (p := ⟨gb318, 2, none⟩) (Kd.R_far (p := ⟨gb318, 1, none⟩) (Kd.R_far (p := ⟨gb318, 0, none⟩) (Kd.R_types HO316.out BK318.out (by decide)) (fun _ hk => hk.2) (.slice Ao80 t308.length co80)) (fun _ hk => hk.2) (.slice Ao84 t311.length co84)) (fun _ hk => hk.2) (.slice Ao85 t314.length co85)) (fun _ h_ => h_.1))) : p := h
theorem a216_ {p : Prop} (h : p := by repeat (first | (with_reducible first | exact HB.out | apply below_alloc | apply pw_below_drewN | apply below_drew1 | refine below_set ?_ GE277.out) | exact HB.out)) : p := h
theorem a217_ {p : Prop} (h : p := by (with_reducible repeat (first | refine blk_drewN ?_ _ | refine blk_drew ?_ | refine blk_alloc ?_ _)); refine blk_put (cs := #[.slice Ao22 t281.length co22, .slice Ao25 t284.length co25, .slice none 0 0]) ?_ 2 _ rfl; (with_reducible repeat (first | refine blk_drewN ?_ _ | refine blk_drew ?_ | refine blk_alloc ?_ _)); refine blk_put (cs := #[.slice Ao22 t281.length co22, .slice none 0 0, .slice none 0 0]) ?_ 1 _ rfl; (with_reducible repeat (first | refine blk_drewN ?_ _ | refine blk_drew ?_ | refine blk_alloc ?_ _)); refine blk_put (cs := #[.slice none 0 0, .slice none 0 0, .slice none 0 0]) ?_ 0 _ rfl; (with_reducible repeat (first | refine blk_drewN ?_ _ | refine blk_drew ?_ | refine blk_alloc ?_ _)); exact BK291.out) : p := h
theorem a218_ {p : Prop} (h : p := by (with_reducible repeat (first | refine blk_drewN ?_ _ | refine blk_drew ?_ | refine blk_alloc ?_ _)); refine blk_put (cs := #[.slice Ao80 t308.length co80, .slice Ao84 t311.length co84, .slice none 0 0]) ?_ 2 _ rfl; (with_reducible repeat (first | refine blk_drewN ?_ _ | refine blk_drew ?_ | refine blk_alloc ?_ _)); refine blk_put (cs := #[.slice Ao80 t308.length co80, .slice none 0 0, .slice none 0 0]) ?_ 1 _ rfl; (with_reducible repeat (first | refine blk_drewN ?_ _ | refine blk_drew ?_ | refine blk_alloc ?_ _)); refine blk_put (cs := #[.slice none 0 0, .slice none 0 0, .slice none 0 0]) ?_ 0 _ rfl; (with_reducible repeat (first | refine blk_drewN ?_ _ | refine blk_drew ?_ | refine blk_alloc ?_ _)); exact BK318.out) : p := h
theorem a219_ {p : Prop} (h : p := by repeat (first | (with_reducible first | exact HB.out | apply below_alloc | apply pw_below_drewN | apply below_drew1) | exact HB.out)) : p := h
theorem a220_ {p : Prop} (h : p := by repeat (first | (with_reducible first | exact HB.out | apply below_alloc | apply pw_below_drewN | apply below_drew1 | refine below_set ?_ GE277.out | refine below_set ?_ GE291.out | refine below_set ?_ GE318.out) | exact HB.out)) : p := h
theorem a221_ {p : Prop} (h : p := by (try simp only [List.map_toArray, List.map_cons, List.map_nil]); first | done | (rw [show t301.length = t281.length from (Kd.R_reads' HO_292000.out).1.symm, show t302.length = t284.length from (Kd.R_reads' HO_292001.out).1.symm, show t303.length = t287.length from (Kd.R_reads' HO_292002.out).1.symm] <;> rfl) | rfl | (simp only [List.length_drop, List.length_take]; rfl)) : p := h
theorem a222_ {p : Prop} (h : p := by (with_reducible repeat (first | refine blk_drewN ?_ _ | refine blk_drew ?_ | refine blk_alloc ?_ _)); refine blk_far ?_ NB277_291.out _; (with_reducible repeat (first | refine blk_drewN ?_ _ | refine blk_drew ?_ | refine blk_alloc ?_ _)); refine blk_far ?_ NB277_291.out _; (with_reducible repeat (first | refine blk_drewN ?_ _ | refine blk_drew ?_ | refine blk_alloc ?_ _)); refine blk_far ?_ NB277_291.out _; (with_reducible repeat (first | refine blk_drewN ?_ _ | refine blk_drew ?_ | refine blk_alloc ?_ _)); exact BK277.out) : p := h
theorem a223_ {p : Prop} (h : p := by (with_reducible repeat (first | refine blk_drewN ?_ _ | refine blk_drew ?_ | refine blk_alloc ?_ _)); refine blk_far ?_ NB277_318.out _; (with_reducible repeat (first | refine blk_drewN ?_ _ | refine blk_drew ?_ | refine blk_alloc ?_ _)); refine blk_far ?_ NB277_318.out _; (with_reducible repeat (first | refine blk_drewN ?_ _ | refine blk_drew ?_ | refine blk_alloc ?_ _)); refine blk_far ?_ NB277_318.out _; (with_reducible repeat (first | refine blk_drewN ?_ _ | refine blk_drew ?_ | refine blk_alloc ?_ _)); exact BK277.out) : p := h
theorem a224_ {p : Prop} (h : p := by (with_reducible repeat (first | refine blk_drewN ?_ _ | refine blk_drew ?_ | refine blk_alloc ?_ _)); refine blk_far ?_ NB291_318.out _; (with_reducible repeat (first | refine blk_drewN ?_ _ | refine blk_drew ?_ | refine blk_alloc ?_ _)); refine blk_far ?_ NB291_318.out _; (with_reducible repeat (first | refine blk_drewN ?_ _ | refine blk_drew ?_ | refine blk_alloc ?_ _)); refine blk_far ?_ NB291_318.out _; (with_reducible repeat (first | refine blk_drewN ?_ _ | refine blk_drew ?_ | refine blk_alloc ?_ _)); exact BK291.out) : p := h
theorem a225_ {p : Prop} (h : p := by (with_reducible repeat (first | apply Kd.R_alloc | apply Kd.R_drewN | apply Kd.R_drew)); exact (Kd.R_mono (Kd.R_far (p := ⟨gb318, 2, none⟩) (Kd.R_far (p := ⟨gb318, 1, none⟩) (Kd.R_far (p := ⟨gb318, 0, none⟩) (Kd.R_types HO_292000.out BK318.out (by decide)) (fun _ hk => hk.2) (.slice Ao80 t308.length co80)) (fun _ hk => hk.2) (.slice Ao84 t311.length co84)) (fun _ hk => hk.2) (.slice Ao85 t314.length co85)) (fun _ h_ => h_.1))) : p := h
theorem a226_ {p : Prop} (h : p := by (with_reducible repeat (first | apply Kd.R_alloc | apply Kd.R_drewN | apply Kd.R_drew)); exact (Kd.R_mono (Kd.R_far (p := ⟨gb318, 2, none⟩) (Kd.R_far (p := ⟨gb318, 1, none⟩) (Kd.R_far (p := ⟨gb318, 0, none⟩) (Kd.R_types HO_292001.out BK318.out (by decide)) (fun _ hk => hk.2) (.slice Ao80 t308.length co80)) (fun _ hk => hk.2) (.slice Ao84 t311.length co84)) (fun _ hk => hk.2) (.slice Ao85 t314.length co85)) (fun _ h_ => h_.1))) : p := h
theorem a227_ {p : Prop} (h : p := by (with_reducible repeat (first | apply Kd.R_alloc | apply Kd.R_drewN | apply Kd.R_drew)); exact (Kd.R_mono (Kd.R_far (p := ⟨gb318, 2, none⟩) (Kd.R_far (p := ⟨gb318, 1, none⟩) (Kd.R_far (p := ⟨gb318, 0, none⟩) (Kd.R_types HO_292002.out BK318.out (by decide)) (fun _ hk => hk.2) (.slice Ao80 t308.length co80)) (fun _ hk => hk.2) (.slice Ao84 t311.length co84)) (fun _ hk => hk.2) (.slice Ao85 t314.length co85)) (fun _ h_ => h_.1))) : p := h
theorem a228_ {p : Prop} (h : p := by (with_reducible repeat (first | apply Kd.R_alloc | apply Kd.R_drewN | apply Kd.R_drew)); exact (Kd.R_mono (Kd.R_far (p := ⟨gb277, 2, none⟩) (Kd.R_far (p := ⟨gb277, 1, none⟩) (Kd.R_far (p := ⟨gb277, 0, none⟩) (Kd.R_types HO266.out BK277.out (by decide)) (fun _ hk => hk.2) (.slice Ao14 t267.length co14)) (fun _ hk => hk.2) (.slice Ao16 t270.length co16)) (fun _ hk => hk.2) (.slice Ao17 t273.length co17)) (fun _ h_ => h_.1))) : p := h
theorem a229_ {p : Prop} (h : p := by (with_reducible repeat (first | apply Kd.R_alloc | apply Kd.R_drewN | apply Kd.R_drew)); exact (Kd.R_mono (Kd.R_far (p := ⟨gb291, 2, none⟩) (Kd.R_far (p := ⟨gb291, 1, none⟩) (Kd.R_far (p := ⟨gb291, 0, none⟩) (Kd.R_types HO266.out BK291.out (by decide)) (fun _ hk => hk.2) (.slice Ao22 t281.length co22)) (fun _ hk => hk.2) (.slice Ao25 t284.length co25)) (fun _ hk => hk.2) (.slice Ao26 t287.length co26)) (fun _ h_ => h_.1))) : p := h
theorem a230_ {p : Prop} (h : p := by (with_reducible repeat (first | apply Kd.R_alloc | apply Kd.R_drewN | apply Kd.R_drew)); exact (Kd.R_mono (Kd.R_far (p := ⟨gb291, 2, none⟩) (Kd.R_far (p := ⟨gb291, 1, none⟩) (Kd.R_far (p := ⟨gb291, 0, none⟩) (Kd.R_types HO280.out BK291.out (by decide)) (fun _ hk => hk.2) (.slice Ao22 t281.length co22)) (fun _ hk => hk.2) (.slice Ao25 t284.length co25)) (fun _ hk => hk.2) (.slice Ao26 t287.length co26)) (fun _ h_ => h_.1))) : p := h
theorem a231_ {p : Prop} (h : p := by (with_reducible repeat (first | apply Kd.R_alloc | apply Kd.R_drewN | apply Kd.R_drew)); exact (Kd.R_mono (Kd.R_far (p := ⟨gb318, 2, none⟩) (Kd.R_far (p := ⟨gb318, 1, none⟩) (Kd.R_far (p := ⟨gb318, 0, none⟩) (Kd.R_types HO307.out BK318.out (by decide)) (fun _ hk => hk.2) (.slice Ao80 t308.length co80)) (fun _ hk => hk.2) (.slice Ao84 t311.length co84)) (fun _ hk => hk.2) (.slice Ao85 t314.length co85)) (fun _ h_ => h_.1))) : p := h
theorem a232_ {p : Prop} (h : p := by (with_reducible repeat (first | apply Kd.R_alloc | apply Kd.R_drewN | apply Kd.R_drew)); exact HO_8.out) : p := h
theorem a233_ {p : Prop} (h : p := by (with_reducible repeat (first | apply Kd.R_alloc | apply Kd.R_drewN | apply Kd.R_drew)); exact HO269.out) : p := h
theorem a234_ {p : Prop} (h : p := by (with_reducible repeat (first | apply Kd.R_alloc | apply Kd.R_drewN | apply Kd.R_drew)); exact HO272.out) : p := h
theorem a235_ {p : Prop} (h : p := by (with_reducible repeat (first | apply Kd.R_alloc | apply Kd.R_drewN | apply Kd.R_drew)); exact HO275.out) : p := h
theorem a236_ {p : Prop} (h : p := by (with_reducible repeat (first | apply Kd.R_alloc | apply Kd.R_drewN | apply Kd.R_drew)); exact HO266.out) : p := h
theorem a237_ {p : Prop} (h : p := by (with_reducible repeat (first | apply Kd.R_alloc | apply Kd.R_drewN | apply Kd.R_drew)); exact HO295.out) : p := h
theorem a238_ {p : Prop} (h : p := by (with_reducible repeat (first | refine blk_drewN ?_ _ | refine blk_drew ?_ | refine blk_alloc ?_ _)); exact BK318.out) : p := h
theorem a239_ {p : Prop} (h : p := by (with_reducible repeat (first | apply Kd.R_alloc | apply Kd.R_drewN | apply Kd.R_drew)); exact HO_319000.out) : p := h
theorem a240_ {p : Prop} (h : p := by (with_reducible repeat (first | apply Kd.R_alloc | apply Kd.R_drewN | apply Kd.R_drew)); exact HO_319001.out) : p := h
theorem a241_ {p : Prop} (h : p := by (with_reducible repeat (first | apply Kd.R_alloc | apply Kd.R_drewN | apply Kd.R_drew)); exact HO_319002.out) : p := h
theorem a242_ {p : Prop} (h : p := by first | rfl | (simp; done) | (simp [*]; done)) : p := h
theorem a243_ {p : Prop} (h : p := by (with_reducible repeat (first | apply Kd.R_alloc | apply Kd.R_drewN | apply Kd.R_drew)); exact HO280.out) : p := h
theorem a244_ {p : Prop} (h : p := by (with_reducible repeat (first | apply Kd.R_alloc | apply Kd.R_drewN | apply Kd.R_drew)); exact HO307.out) : p := h
theorem a245_ {p : Prop} (h : p := by rw [hg]; exact Nat.ne_of_lt (blk_lt (g := gb277) (o := .cells #[.slice Ao14 t267.length co14, .slice Ao16 t270.length co16, .slice Ao17 t273.length co17] 29 (0, 0)) a196_)) : p := h
theorem a246_ {p : Prop} (h : p := by rw [hg]; exact Nat.ne_of_gt (blk_lt (g := gb277) (o := .cells #[.slice Ao14 t267.length co14, .slice Ao16 t270.length co16, .slice Ao17 t273.length co17] 29 (0, 0)) a196_)) : p := h
theorem a247_ {p : Prop} (h : p := by repeat (first | exact (Kd.R_reads' HO_292000.out).2.2 | (with_reducible refine Kd.C_alloc ?_ _) | (with_reducible refine Kd.C_drewN ?_ _) | (with_reducible refine Kd.C_drew ?_))) : p := h
theorem a248_ {p : Prop} (h : p := by repeat (first | exact (Kd.R_reads' HO_292001.out).2.2 | (with_reducible refine Kd.C_alloc ?_ _) | (with_reducible refine Kd.C_drewN ?_ _) | (with_reducible refine Kd.C_drew ?_))) : p := h
theorem a249_ {p : Prop} (h : p := by repeat (first | exact (Kd.R_reads' HO_292002.out).2.2 | (with_reducible refine Kd.C_alloc ?_ _) | (with_reducible refine Kd.C_drewN ?_ _) | (with_reducible refine Kd.C_drew ?_))) : p := h
theorem a250_ {p : Prop} (h : p := by repeat (first | (with_reducible first | exact HB.out | apply below_alloc | apply pw_below_drewN | apply below_drew1 | refine below_set ?_ GE277.out | refine below_set ?_ GE291.out) | exact HB.out)) : p := h
theorem a251_ {p : Prop} (h : p := by refine (Kd.R_reads' (e := 38) (base := w.heap.size) (ok := fun k_ => (((((((nbk k_ Ao84 t311.length co84 ∧ nbk k_ Ao85 t314.length co85) ∧ nbk k_ Ao14 t267.length co14) ∧ nbk k_ Ao16 t270.length co16) ∧ nbk k_ Ao17 t273.length co17) ∧ nbk k_ Ao22 t281.length co22) ∧ nbk k_ Ao25 t284.length co25) ∧ nbk k_ Ao26 t287.length co26)) (n := t308.length) (c := co80) ?_).2.2; exact a213_) : p := h
theorem a252_ {p : Prop} (h : p := by refine (Kd.R_reads' (e := 38) (base := w.heap.size) (ok := fun k_ => (((((((nbk k_ Ao80 t308.length co80 ∧ nbk k_ Ao85 t314.length co85) ∧ nbk k_ Ao14 t267.length co14) ∧ nbk k_ Ao16 t270.length co16) ∧ nbk k_ Ao17 t273.length co17) ∧ nbk k_ Ao22 t281.length co22) ∧ nbk k_ Ao25 t284.length co25) ∧ nbk k_ Ao26 t287.length co26)) (n := t311.length) (c := co84) ?_).2.2; exact a214_) : p := h
theorem a253_ {p : Prop} (h : p := by refine (Kd.R_reads' (e := 38) (base := w.heap.size) (ok := fun k_ => (((((((nbk k_ Ao80 t308.length co80 ∧ nbk k_ Ao84 t311.length co84) ∧ nbk k_ Ao14 t267.length co14) ∧ nbk k_ Ao16 t270.length co16) ∧ nbk k_ Ao17 t273.length co17) ∧ nbk k_ Ao22 t281.length co22) ∧ nbk k_ Ao25 t284.length co25) ∧ nbk k_ Ao26 t287.length co26)) (n := t314.length) (c := co85) ?_).2.2; exact a215_) : p := h
theorem a254_ {p : Prop} (h : p := by refine (Kd.R_reads' (e := 38) (base := w.heap.size) (ok := fun k_ => ((((nbk k_ Ao16 t270.length co16 ∧ (nbk k_ Ao17 t273.length co17 ∧ (nbk k_ Ao22 t281.length co22 ∧ (nbk k_ Ao25 t284.length co25 ∧ nbk k_ Ao26 t287.length co26)))) ∧ nbk k_ Ao80 t308.length co80) ∧ nbk k_ Ao84 t311.length co84) ∧ nbk k_ Ao85 t314.length co85)) (n := t267.length) (c := co14) ?_).2.2; exact a204_) : p := h
theorem a255_ {p : Prop} (h : p := by refine (Kd.R_reads' (e := 38) (base := w.heap.size) (ok := fun k_ => ((((nbk k_ Ao14 t267.length co14 ∧ (nbk k_ Ao17 t273.length co17 ∧ (nbk k_ Ao22 t281.length co22 ∧ (nbk k_ Ao25 t284.length co25 ∧ nbk k_ Ao26 t287.length co26)))) ∧ nbk k_ Ao80 t308.length co80) ∧ nbk k_ Ao84 t311.length co84) ∧ nbk k_ Ao85 t314.length co85)) (n := t270.length) (c := co16) ?_).2.2; exact a205_) : p := h
theorem a256_ {p : Prop} (h : p := by refine (Kd.R_reads' (e := 38) (base := w.heap.size) (ok := fun k_ => ((((nbk k_ Ao14 t267.length co14 ∧ (nbk k_ Ao16 t270.length co16 ∧ (nbk k_ Ao22 t281.length co22 ∧ (nbk k_ Ao25 t284.length co25 ∧ nbk k_ Ao26 t287.length co26)))) ∧ nbk k_ Ao80 t308.length co80) ∧ nbk k_ Ao84 t311.length co84) ∧ nbk k_ Ao85 t314.length co85)) (n := t273.length) (c := co17) ?_).2.2; exact a206_) : p := h
theorem a257_ {p : Prop} (h : p := by refine (Kd.R_reads' (e := 38) (base := w.heap.size) (ok := fun k_ => ((((nbk k_ Ao25 t284.length co25 ∧ nbk k_ Ao26 t287.length co26) ∧ nbk k_ Ao14 t267.length co14) ∧ nbk k_ Ao16 t270.length co16) ∧ nbk k_ Ao17 t273.length co17)) (n := t281.length) (c := co22) ?_).2.2; exact a207_) : p := h
theorem a258_ {p : Prop} (h : p := by refine (Kd.R_reads' (e := 38) (base := w.heap.size) (ok := fun k_ => ((((nbk k_ Ao22 t281.length co22 ∧ nbk k_ Ao26 t287.length co26) ∧ nbk k_ Ao14 t267.length co14) ∧ nbk k_ Ao16 t270.length co16) ∧ nbk k_ Ao17 t273.length co17)) (n := t284.length) (c := co25) ?_).2.2; exact a208_) : p := h
theorem a259_ {p : Prop} (h : p := by refine (Kd.R_reads' (e := 38) (base := w.heap.size) (ok := fun k_ => ((((nbk k_ Ao22 t281.length co22 ∧ nbk k_ Ao25 t284.length co25) ∧ nbk k_ Ao14 t267.length co14) ∧ nbk k_ Ao16 t270.length co16) ∧ nbk k_ Ao17 t273.length co17)) (n := t287.length) (c := co26) ?_).2.2; exact a209_) : p := h
theorem a260_ {p : Prop} (h : p := by refine (Kd.R_reads' (e := 38) (base := w.heap.size) (ok := fun k_ => ((((nbk k_ Ao16 t270.length co16 ∧ nbk k_ Ao17 t273.length co17) ∧ nbk k_ Ao22 t281.length co22) ∧ nbk k_ Ao25 t284.length co25) ∧ nbk k_ Ao26 t287.length co26)) (n := t267.length) (c := co14) ?_).2.2; exact a210_) : p := h
theorem a261_ {p : Prop} (h : p := by refine (Kd.R_reads' (e := 38) (base := w.heap.size) (ok := fun k_ => ((((nbk k_ Ao14 t267.length co14 ∧ nbk k_ Ao17 t273.length co17) ∧ nbk k_ Ao22 t281.length co22) ∧ nbk k_ Ao25 t284.length co25) ∧ nbk k_ Ao26 t287.length co26)) (n := t270.length) (c := co16) ?_).2.2; exact a211_) : p := h
theorem a262_ {p : Prop} (h : p := by refine (Kd.R_reads' (e := 38) (base := w.heap.size) (ok := fun k_ => ((((nbk k_ Ao14 t267.length co14 ∧ nbk k_ Ao16 t270.length co16) ∧ nbk k_ Ao22 t281.length co22) ∧ nbk k_ Ao25 t284.length co25) ∧ nbk k_ Ao26 t287.length co26)) (n := t273.length) (c := co17) ?_).2.2; exact a212_) : p := h
theorem a263_ {p : Prop} (h : p := by repeat (first | exact (Kd.C_below HR0.out HB.out) | (with_reducible refine Kd.C_alloc ?_ _) | (with_reducible refine Kd.C_drewN ?_ _) | (with_reducible refine Kd.C_drew ?_))) : p := h
theorem a264_ {p : Prop} (h : p := by repeat (first | exact HR0.out | (with_reducible refine Kd.C_alloc ?_ _) | (with_reducible refine Kd.C_drewN ?_ _) | (with_reducible refine Kd.C_drew ?_))) : p := h
theorem a265_ {p : Prop} (h : p := by repeat (first | exact (Kd.R_reads' HO_278000.out).2.2 | (with_reducible refine Kd.C_alloc ?_ _) | (with_reducible refine Kd.C_drewN ?_ _) | (with_reducible refine Kd.C_drew ?_))) : p := h
theorem a266_ {p : Prop} (h : p := by repeat (first | exact (Kd.R_reads' HO_278001.out).2.2 | (with_reducible refine Kd.C_alloc ?_ _) | (with_reducible refine Kd.C_drewN ?_ _) | (with_reducible refine Kd.C_drew ?_))) : p := h
theorem a267_ {p : Prop} (h : p := by repeat (first | exact (Kd.R_reads' HO_278002.out).2.2 | (with_reducible refine Kd.C_alloc ?_ _) | (with_reducible refine Kd.C_drewN ?_ _) | (with_reducible refine Kd.C_drew ?_))) : p := h
theorem a268_ {p : Prop} (h : p := by repeat (first | exact (Kd.R_reads' HO295.out).2.2 | (with_reducible refine Kd.C_alloc ?_ _) | (with_reducible refine Kd.C_drewN ?_ _) | (with_reducible refine Kd.C_drew ?_))) : p := h
theorem a269_ {p : Prop} (h : p := by repeat (first | exact (Kd.R_reads' HO_8.out).2.2 | (with_reducible refine Kd.C_alloc ?_ _) | (with_reducible refine Kd.C_drewN ?_ _) | (with_reducible refine Kd.C_drew ?_))) : p := h
theorem a270_ {p : Prop} (h : p := by rw [show t301.length = t281.length from (Kd.R_reads' HO_292000.out).1.symm]; exact (Kd.R_reads' HO_292000.out).2.1) : p := h
theorem a271_ {p : Prop} (h : p := by rw [show t302.length = t284.length from (Kd.R_reads' HO_292001.out).1.symm]; exact (Kd.R_reads' HO_292001.out).2.1) : p := h
theorem a272_ {p : Prop} (h : p := by rw [show t303.length = t287.length from (Kd.R_reads' HO_292002.out).1.symm]; exact (Kd.R_reads' HO_292002.out).2.1) : p := h

/-! ### laws_FnExactMachineFor: function 11 -/
mutual
def laws_FnExactMachineFor.j0 : Nat → List (S155) → Int → Int → List (S118) → Int → Bool → List Int → List Int → List Int → List Int → List Int → List Int → Option (Bool)
  | 0, _, _, _, _, _, _, _, _, _, _, _, _ => none
  | k + 1, x0, x1, x7, x8, x10, x44, x278000, x278001, x278002, x292000, x292001, x292002 => if x44 = true then (some false) else ((laws_toStopS.f k x0).bind fun t293 => ((laws_eqStopS.f k x8 t293).bind fun t296 => (if t296 = true then ((laws_markStopS.f k x8 1).bind fun bt297 => (if bt297.1 < 0 then (laws_FnExactMachineFor.j1 k x0 x1 x7 true x278000 x278001 x278002 x292000 x292001 x292002) else ((laws_eqMachine.f k x292000 x292001 x292002 x278000 x278001 x278002).bind fun t299 => (if t299 = true then (laws_FnExactMachineFor.j1 k x0 x1 x7 (x10 != x7) x278000 x278001 x278002 x292000 x292001 x292002) else (laws_FnExactMachineFor.j1 k x0 x1 x7 true x278000 x278001 x278002 x292000 x292001 x292002))))) else (some false))))
def laws_FnExactMachineFor.j1 : Nat → List (S155) → Int → Int → Bool → List Int → List Int → List Int → List Int → List Int → List Int → Option (Bool)
  | 0, _, _, _, _, _, _, _, _, _, _ => none
  | k + 1, x0, x1, x7, x65, x278000, x278001, x278002, x292000, x292001, x292002 => if x65 = true then (some false) else ((laws_markMachine.f k x292000 x292001 x292002 1).bind fun bt300 => ((laws_heldMachine.f k bt300.2.1 bt300.2.2.1 bt300.2.2.2 1).bind fun t304 => (if t304 < 0 then (some false) else (if t304 = bt300.1 then ((laws_toStopS.f k x0).bind fun t305 => ((impl_MachineFor.f k t305 x1).bind fun bt308 => ((laws_eqMachine.f k bt308.1 bt308.2.1 bt308.2.2.1 x278000 x278001 x278002).bind fun t319 => (if t319 = true then (laws_FnExactMachineFor.j2 k bt300.1 (bt308.2.2.2 != x7) bt300.2.1 bt300.2.2.1 bt300.2.2.2) else (laws_FnExactMachineFor.j2 k bt300.1 true bt300.2.1 bt300.2.2.1 bt300.2.2.2))))) else (some false)))))
def laws_FnExactMachineFor.j2 : Nat → Int → Bool → List Int → List Int → List Int → Option (Bool)
  | 0, _, _, _, _, _ => none
  | k + 1, x12, x92, x292000, x292001, x292002 => if x92 = true then (some false) else ((laws_heldMachine.f k x292000 x292001 x292002 1).bind fun t320 => (if t320 < 0 then (some false) else (if t320 = x12 then (some true) else (some false))))
end
def laws_FnExactMachineFor.f (k : Nat) (l0 : List (S155)) (a1 : Int) : Option (Bool) := (laws_szStopS.f l0 1048576).bind fun t263 => (if t263 < 0 then (some true) else ((laws_toStopS.f k l0).bind fun t264 => ((spec_MachineFor.f k t264 a1).bind fun bt267 => ((laws_toStopS.f k l0).bind fun t278 => ((impl_MachineFor.f k t278 a1).bind fun bt281 => ((laws_eqMachine.f k bt281.1 bt281.2.1 bt281.2.2.1 bt267.1 bt267.2.1 bt267.2.2.1).bind fun t292 => (if t292 = true then (laws_FnExactMachineFor.j0 k l0 a1 bt267.2.2.2 t278 bt281.2.2.2 (bt281.2.2.2 != bt267.2.2.2) bt267.1 bt267.2.1 bt267.2.2.1 bt281.1 bt281.2.1 bt281.2.2.1) else (laws_FnExactMachineFor.j0 k l0 a1 bt267.2.2.2 t278 bt281.2.2.2 true bt267.1 bt267.2.1 bt267.2.2.1 bt281.1 bt281.2.1 bt281.2.2.1))))))))
theorem laws_FnExactMachineFor.mono_l : ∀ k, (∀ y0 y1 y2 y3 y4 y5 y6 y7 y8 y9 y10 y11, LeO (laws_FnExactMachineFor.j0 k y0 y1 y2 y3 y4 y5 y6 y7 y8 y9 y10 y11) (laws_FnExactMachineFor.j0 (k + 1) y0 y1 y2 y3 y4 y5 y6 y7 y8 y9 y10 y11)) ∧ (∀ y0 y1 y2 y3 y4 y5 y6 y7 y8 y9, LeO (laws_FnExactMachineFor.j1 k y0 y1 y2 y3 y4 y5 y6 y7 y8 y9) (laws_FnExactMachineFor.j1 (k + 1) y0 y1 y2 y3 y4 y5 y6 y7 y8 y9)) ∧ (∀ y0 y1 y2 y3 y4, LeO (laws_FnExactMachineFor.j2 k y0 y1 y2 y3 y4) (laws_FnExactMachineFor.j2 (k + 1) y0 y1 y2 y3 y4))
  | 0 => ⟨fun _ _ _ _ _ _ _ _ _ _ _ _ r h => by simp [laws_FnExactMachineFor.j0] at h, fun _ _ _ _ _ _ _ _ _ _ r h => by simp [laws_FnExactMachineFor.j1] at h, fun _ _ _ _ _ r h => by simp [laws_FnExactMachineFor.j2] at h⟩
  | k + 1 => by
    obtain ⟨ih0, ih1, ih2⟩ := laws_FnExactMachineFor.mono_l k
    refine ⟨?_, ?_, ?_⟩
    · intro y0 y1 y2 y3 y4 y5 y6 y7 y8 y9 y10 y11
      unfold laws_FnExactMachineFor.j0
      repeat' first
      | (with_reducible exact ih0 _ _ _ _ _ _ _ _ _ _ _ _)
      | (with_reducible exact ih1 _ _ _ _ _ _ _ _ _ _)
      | (with_reducible exact ih2 _ _ _ _ _)
      | (with_reducible exact impl_MachineFor.mono _ _ _)
      | (with_reducible exact laws_eqMachine.mono _ _ _ _ _ _ _)
      | (with_reducible exact laws_eqStopS.mono _ _ _)
      | (with_reducible exact laws_heldMachine.mono _ _ _ _ _)
      | (with_reducible exact laws_markMachine.mono _ _ _ _ _)
      | (with_reducible exact laws_markStopS.mono _ _ _)
      | (with_reducible exact laws_toStopS.mono _ _)
      | (with_reducible exact spec_MachineFor.mono _ _ _)
      | (with_reducible exact LeO.refl _)
      | (with_reducible exact LeO.none _)
      | (with_reducible refine LeO.ite ?_ ?_)
      | (with_reducible refine LeO.bind ?_ (fun _ => ?_))
      | exact ih0 _ _ _ _ _ _ _ _ _ _ _ _
      | exact ih1 _ _ _ _ _ _ _ _ _ _
      | exact ih2 _ _ _ _ _
      | exact impl_MachineFor.mono _ _ _
      | exact laws_eqMachine.mono _ _ _ _ _ _ _
      | exact laws_eqStopS.mono _ _ _
      | exact laws_heldMachine.mono _ _ _ _ _
      | exact laws_markMachine.mono _ _ _ _ _
      | exact laws_markStopS.mono _ _ _
      | exact laws_toStopS.mono _ _
      | exact spec_MachineFor.mono _ _ _
      | exact LeO.none _
      | refine LeO.ite ?_ ?_
      | refine LeO.bind ?_ (fun _ => ?_)
    · intro y0 y1 y2 y3 y4 y5 y6 y7 y8 y9
      unfold laws_FnExactMachineFor.j1
      repeat' first
      | (with_reducible exact ih0 _ _ _ _ _ _ _ _ _ _ _ _)
      | (with_reducible exact ih1 _ _ _ _ _ _ _ _ _ _)
      | (with_reducible exact ih2 _ _ _ _ _)
      | (with_reducible exact impl_MachineFor.mono _ _ _)
      | (with_reducible exact laws_eqMachine.mono _ _ _ _ _ _ _)
      | (with_reducible exact laws_eqStopS.mono _ _ _)
      | (with_reducible exact laws_heldMachine.mono _ _ _ _ _)
      | (with_reducible exact laws_markMachine.mono _ _ _ _ _)
      | (with_reducible exact laws_markStopS.mono _ _ _)
      | (with_reducible exact laws_toStopS.mono _ _)
      | (with_reducible exact spec_MachineFor.mono _ _ _)
      | (with_reducible exact LeO.refl _)
      | (with_reducible exact LeO.none _)
      | (with_reducible refine LeO.ite ?_ ?_)
      | (with_reducible refine LeO.bind ?_ (fun _ => ?_))
      | exact ih0 _ _ _ _ _ _ _ _ _ _ _ _
      | exact ih1 _ _ _ _ _ _ _ _ _ _
      | exact ih2 _ _ _ _ _
      | exact impl_MachineFor.mono _ _ _
      | exact laws_eqMachine.mono _ _ _ _ _ _ _
      | exact laws_eqStopS.mono _ _ _
      | exact laws_heldMachine.mono _ _ _ _ _
      | exact laws_markMachine.mono _ _ _ _ _
      | exact laws_markStopS.mono _ _ _
      | exact laws_toStopS.mono _ _
      | exact spec_MachineFor.mono _ _ _
      | exact LeO.none _
      | refine LeO.ite ?_ ?_
      | refine LeO.bind ?_ (fun _ => ?_)
    · intro y0 y1 y2 y3 y4
      unfold laws_FnExactMachineFor.j2
      repeat' first
      | (with_reducible exact ih0 _ _ _ _ _ _ _ _ _ _ _ _)
      | (with_reducible exact ih1 _ _ _ _ _ _ _ _ _ _)
      | (with_reducible exact ih2 _ _ _ _ _)
      | (with_reducible exact impl_MachineFor.mono _ _ _)
      | (with_reducible exact laws_eqMachine.mono _ _ _ _ _ _ _)
      | (with_reducible exact laws_eqStopS.mono _ _ _)
      | (with_reducible exact laws_heldMachine.mono _ _ _ _ _)
      | (with_reducible exact laws_markMachine.mono _ _ _ _ _)
      | (with_reducible exact laws_markStopS.mono _ _ _)
      | (with_reducible exact laws_toStopS.mono _ _)
      | (with_reducible exact spec_MachineFor.mono _ _ _)
      | (with_reducible exact LeO.refl _)
      | (with_reducible exact LeO.none _)
      | (with_reducible refine LeO.ite ?_ ?_)
      | (with_reducible refine LeO.bind ?_ (fun _ => ?_))
      | exact ih0 _ _ _ _ _ _ _ _ _ _ _ _
      | exact ih1 _ _ _ _ _ _ _ _ _ _
      | exact ih2 _ _ _ _ _
      | exact impl_MachineFor.mono _ _ _
      | exact laws_eqMachine.mono _ _ _ _ _ _ _
      | exact laws_eqStopS.mono _ _ _
      | exact laws_heldMachine.mono _ _ _ _ _
      | exact laws_markMachine.mono _ _ _ _ _
      | exact laws_markStopS.mono _ _ _
      | exact laws_toStopS.mono _ _
      | exact spec_MachineFor.mono _ _ _
      | exact LeO.none _
      | refine LeO.ite ?_ ?_
      | refine LeO.bind ?_ (fun _ => ?_)
theorem laws_FnExactMachineFor.mono : ∀ a0 a1 k, LeO (laws_FnExactMachineFor.f k a0 a1) (laws_FnExactMachineFor.f (k + 1) a0 a1) := by
  intro a0 a1 k
  obtain ⟨ih0, ih1, ih2⟩ := laws_FnExactMachineFor.mono_l k
  unfold laws_FnExactMachineFor.f
  repeat' first
      | (with_reducible exact ih0 _ _ _ _ _ _ _ _ _ _ _ _)
      | (with_reducible exact ih1 _ _ _ _ _ _ _ _ _ _)
      | (with_reducible exact ih2 _ _ _ _ _)
      | (with_reducible exact impl_MachineFor.mono _ _ _)
      | (with_reducible exact laws_eqMachine.mono _ _ _ _ _ _ _)
      | (with_reducible exact laws_eqStopS.mono _ _ _)
      | (with_reducible exact laws_heldMachine.mono _ _ _ _ _)
      | (with_reducible exact laws_markMachine.mono _ _ _ _ _)
      | (with_reducible exact laws_markStopS.mono _ _ _)
      | (with_reducible exact laws_toStopS.mono _ _)
      | (with_reducible exact spec_MachineFor.mono _ _ _)
      | (with_reducible exact LeO.refl _)
      | (with_reducible exact LeO.none _)
      | (with_reducible refine LeO.ite ?_ ?_)
      | (with_reducible refine LeO.bind ?_ (fun _ => ?_))
      | exact ih0 _ _ _ _ _ _ _ _ _ _ _ _
      | exact ih1 _ _ _ _ _ _ _ _ _ _
      | exact ih2 _ _ _ _ _
      | exact impl_MachineFor.mono _ _ _
      | exact laws_eqMachine.mono _ _ _ _ _ _ _
      | exact laws_eqStopS.mono _ _ _
      | exact laws_heldMachine.mono _ _ _ _ _
      | exact laws_markMachine.mono _ _ _ _ _
      | exact laws_markStopS.mono _ _ _
      | exact laws_toStopS.mono _ _
      | exact spec_MachineFor.mono _ _ _
      | exact LeO.none _
      | refine LeO.ite ?_ ?_
      | refine LeO.bind ?_ (fun _ => ?_)
/-! ### laws_FnExactMachineFor: what follows is its proof -/

end Go.Proofs.Ytnjcmalmnofbmaa.XFnExactMachineFor
