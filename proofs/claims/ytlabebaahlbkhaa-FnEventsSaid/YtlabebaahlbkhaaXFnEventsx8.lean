/- Printed by this repository's own program (wip/tools/xprint.py) for the law FnEvents: Lean functions that say what the Go functions compute, and the proofs that the machine comes to just that; no condition beyond those in each statement. -/
import Derived.Test.YtlabebaahlbkhaaXFnEventsx0
import Derived.Test.YtlabebaahlbkhaaXFnEventsx7
namespace Go.Proofs.Ytlabebaahlbkhaa.XFnEvents
open Go.RowKit Go.Proofs.YtlabebaahlbkhaaW.PrintWords Go.Proofs.YtlabebaahlbkhaaW.PrintLast Go.Proofs.YtlabebaahlbkhaaW.PrintMore
attribute [local go_sem] max2_int min2_int max_two min_two max_three min_three max_four min_four   -- for this text's walks alone
set_option linter.unusedVariables false
set_option linter.unusedSimpArgs false

/-! ### spec_EventsOf: function 8 -/
mutual
def spec_EventsOf.l0 : Nat → List (S51) → Int → Int → List (S34) → Int → Option ((List (S34)) × Int)
  | 0, _, _, _, _, _ => none
  | k + 1, x0, x1, x6, x8, x9 => if x9 < x6 then (spec_EventsOf.l1 k x0 x1 x6 x8 x9 0) else (some (x8, 0))
def spec_EventsOf.l1 : Nat → List (S51) → Int → Int → List (S34) → Int → Int → Option ((List (S34)) × Int)
  | 0, _, _, _, _, _, _ => none
  | k + 1, x0, x1, x6, x8, x9, x10 => if x10 < (x0.length : Int) then (if 0 ≤ x10 then ((spec_l04Lift.f ((rd_T51 x0 x10).f0) ((rd_T51 x0 x10).f1) ((rd_T51 x0 x10).f2) ((rd_T51 x0 x10).f3) x9).bind fun t283 => (if t283 ≥ x1 then (if x6 = 0 then (none) else ((spec_l04Lift.f ((rd_T51 x0 x10).f0) ((rd_T51 x0 x10).f1) ((rd_T51 x0 x10).f2) ((rd_T51 x0 x10).f3) (Int.tmod (wrap64 ((wrap64 (x9 + x6)) - 1)) x6)).bind fun t285 => (if t285 < x1 then (if x8.length < 8796093022208 then (spec_EventsOf.l1 k x0 x1 x6 (x8 ++ [(⟨x9, x10⟩ : S34)]) x9 (wrap64 (x10 + 1))) else (none)) else (spec_EventsOf.l1 k x0 x1 x6 x8 x9 (wrap64 (x10 + 1)))))) else (spec_EventsOf.l1 k x0 x1 x6 x8 x9 (wrap64 (x10 + 1))))) else (none)) else (spec_EventsOf.l0 k x0 x1 x6 x8 (wrap64 (x9 + 1)))
end
def spec_EventsOf.f (k : Nat) (l0 : List (S51)) (a1 : Int) : Option ((List (S34)) × Int) := (spec_l04Asked.f k l0 0 0 a1).bind fun bt274 => (if bt274.2 = 0 then (spec_EventsOf.l0 k l0 a1 bt274.1 (([] : List (S34))) 0) else (some ((([] : List (S34))), bt274.2)))
theorem spec_EventsOf.mono_l : ∀ k, (∀ y0 y1 y2 y3 y4, LeO (spec_EventsOf.l0 k y0 y1 y2 y3 y4) (spec_EventsOf.l0 (k + 1) y0 y1 y2 y3 y4)) ∧ (∀ y0 y1 y2 y3 y4 y5, LeO (spec_EventsOf.l1 k y0 y1 y2 y3 y4 y5) (spec_EventsOf.l1 (k + 1) y0 y1 y2 y3 y4 y5))
  | 0 => ⟨fun _ _ _ _ _ r h => by simp [spec_EventsOf.l0] at h, fun _ _ _ _ _ _ r h => by simp [spec_EventsOf.l1] at h⟩
  | k + 1 => by
    obtain ⟨ih0, ih1⟩ := spec_EventsOf.mono_l k
    refine ⟨?_, ?_⟩
    · intro y0 y1 y2 y3 y4
      unfold spec_EventsOf.l0
      repeat' first
      | (with_reducible exact ih0 _ _ _ _ _)
      | (with_reducible exact ih1 _ _ _ _ _ _)
      | (with_reducible exact spec_l04Asked.mono _ _ _ _ _)
      | (with_reducible exact LeO.refl _)
      | (with_reducible exact LeO.none _)
      | (with_reducible refine LeO.ite ?_ ?_)
      | (with_reducible refine LeO.bind ?_ (fun _ => ?_))
      | exact ih0 _ _ _ _ _
      | exact ih1 _ _ _ _ _ _
      | exact spec_l04Asked.mono _ _ _ _ _
      | exact LeO.none _
      | refine LeO.ite ?_ ?_
      | refine LeO.bind ?_ (fun _ => ?_)
    · intro y0 y1 y2 y3 y4 y5
      unfold spec_EventsOf.l1
      repeat' first
      | (with_reducible exact ih0 _ _ _ _ _)
      | (with_reducible exact ih1 _ _ _ _ _ _)
      | (with_reducible exact spec_l04Asked.mono _ _ _ _ _)
      | (with_reducible exact LeO.refl _)
      | (with_reducible exact LeO.none _)
      | (with_reducible refine LeO.ite ?_ ?_)
      | (with_reducible refine LeO.bind ?_ (fun _ => ?_))
      | exact ih0 _ _ _ _ _
      | exact ih1 _ _ _ _ _ _
      | exact spec_l04Asked.mono _ _ _ _ _
      | exact LeO.none _
      | refine LeO.ite ?_ ?_
      | refine LeO.bind ?_ (fun _ => ?_)
theorem spec_EventsOf.mono : ∀ a0 a1 k, LeO (spec_EventsOf.f k a0 a1) (spec_EventsOf.f (k + 1) a0 a1) := by
  intro a0 a1 k
  obtain ⟨ih0, ih1⟩ := spec_EventsOf.mono_l k
  unfold spec_EventsOf.f
  repeat' first
      | (with_reducible exact ih0 _ _ _ _ _)
      | (with_reducible exact ih1 _ _ _ _ _ _)
      | (with_reducible exact spec_l04Asked.mono _ _ _ _ _)
      | (with_reducible exact LeO.refl _)
      | (with_reducible exact LeO.none _)
      | (with_reducible refine LeO.ite ?_ ?_)
      | (with_reducible refine LeO.bind ?_ (fun _ => ?_))
      | exact ih0 _ _ _ _ _
      | exact ih1 _ _ _ _ _ _
      | exact spec_l04Asked.mono _ _ _ _ _
      | exact LeO.none _
      | refine LeO.ite ?_ ?_
      | refine LeO.bind ?_ (fun _ => ?_)
def spec_EventsOf.T11 : Bool × List (List Nat × List Nat) := (true, [([], []), ([], []), ([0, 1], [0, 1]), ([], []), ([2, 3], [2, 3]), ([], []), ([4, 5], [4, 5]), ([6, 4], [6]), ([7], [7]), ([7], [7]), ([8, 9, 7], [7, 8, 9]), ([7], [7]), ([7], [7]), ([11, 12, 7], [7, 11, 12]), ([13, 7], [7, 13]), ([7], [7]), ([14, 15, 7], [7, 14, 15]), ([10, 16, 7, 7], [7, 10, 16]), ([7], [7]), ([17, 18, 7], [7, 17, 18]), ([7, 19], [7, 19])])
def spec_EventsOf.B11 : List Nat := [0, 0, 3, 0, 15, 0, 63, 127, 255, 255, 1023, 255, 255, 6399, 14591, 255, 63743, 131071, 255, 524287, 1048575]
theorem spec_EventsOf.tab11 : rtab .any (opsOf Try.f8 11) = spec_EventsOf.T11 := by kernel_rfl
theorem spec_EventsOf.bits11 : waitsOk spec_EventsOf.T11.2 spec_EventsOf.B11 = true := by kernel_rfl
set_option maxHeartbeats 8000000 in
set_option maxRecDepth 100000 in
theorem spec_EventsOf.calls (k : Nat) (A0 : Option Addr) (c0 : Nat) (l0 : List (S51)) (a1 : Int) (r1 : List (S34)) (r2 : Int) (w : World) (hr0 : Kd.C k51 w A0 l0.length l0) (hc0 : l0.length ≤ c0) (h : spec_EventsOf.f k l0 a1 = some (r1, r2)) :
    Calls Try.prog 8 #[.slice A0 l0.length c0, .int .i64 a1] w fun e w' => ∃ v0_ : Value, e = .returned (.tuple #[v0_, .int .i64 r2]) ∧ Kd.R k34 34 w' w.heap.size (fun _ => True) v0_ r1 ∧ Below w.heap.size w w' := by
  have hu34 := Try.underlying34
  have HR0 := Aside0.mk hr0
  have HC0 := Aside0.mk hc0
  clear hr0 hc0
  have HB := Aside0.mk (Below.refl w.heap.size w)
  have H : ((spec_l04Asked.f k l0 0 0 a1).bind fun bt274 => (if bt274.2 = 0 then (spec_EventsOf.l0 k l0 a1 bt274.1 (([] : List (S34))) 0) else (some ((([] : List (S34))), bt274.2)))) = some (r1, r2) := h
  clear h
  replace H := Option.bind_eq_some_iff.mp H
  obtain ⟨⟨t274, t275⟩, A30, H⟩ := H
  replace H : (if t275 = 0 then (spec_EventsOf.l0 k l0 a1 t274 (([] : List (S34))) 0) else (some ((([] : List (S34))), t275))) = some (r1, r2) := H
  have A3 := Aside0.mk A30
  clear A30
  by_cases c4 : t275 = 0
  · rw [if_pos c4] at H
    have c4b0 : (t275 == 0) = true := beq_iff_eq.mpr c4
    have c4b1 : (t275 != 0) = false := bne_eq_false_iff_eq.mpr c4
    clear c4
    obtain ⟨y279, hy279⟩ : ∃ y_ : List (S34), y_ = (([] : List (S34))) := ⟨_, rfl⟩
    replace H : (spec_EventsOf.l0 k l0 a1 t274 y279 0) = some (r1, r2) := by first | (rw [hy279]; with_reducible exact H) | (have H2_ := (Option.bind_some _ _).symm.trans H; rw [hy279]; with_reducible exact H2_) | (have H2_ := (Option.bind_some _ _).symm.trans H; with_reducible exact H2_) | with_reducible exact H | (rw [hy279]; exact H) | exact H
    have Ny279 := Aside0.mk hy279
    clear hy279
    have H' := Aside0.mk H
    clear H
    go_enter Try.func8, Try.ntmps8
    go_wp2_with (first | ((with_reducible refine gate_callee (f := 17) rfl ?_); refine goesL_ (some 14) rfl rfl Try.func17 (by kernel_rfl) rfl #[.slice A0 l0.length c0, .int .i64 0, .int .i64 0, .int .i64 a1] rfl (by (try simp only [List.map_toArray, List.map_cons, List.map_nil]); first | done | rfl | (simp only [List.length_drop, List.length_take]; rfl)) ?_; (with_reducible refine (spec_l04Asked.calls k _ _ l0 0 0 a1 t274 t275 _ ?side1 ?side2 A3.out).mono ?_); (case side1 => repeat (first | exact HR0.out | (with_reducible refine Kd.C_alloc ?_ _) | (with_reducible refine Kd.C_drewN ?_ _) | (with_reducible refine Kd.C_drew ?_))); (case side2 => exact HC0.out); rintro e w5 ⟨rfl, hb⟩; refine ⟨_, rfl, ?_⟩; have n0_ := Aside0.mk (below_step (by repeat (first | (with_reducible first | exact HB.out | apply below_alloc | apply pw_below_drewN | apply below_drew1) | exact HB.out)) hb); clear HB; have HB := n0_; clear n0_; (try clear hb); (try clear hb2); (try clear hk); (try clear hi)) | ((with_reducible refine gate_dst (N := 21) rfl ?_); refine Kd.R_lit k34 _ 34 ?hg (N := 21) ?hd (xs := ([] : List (S34))) (inner := []) (ok := fun _ => True) (okp := fun _ => True) ?hr ?hp (fun _ hk => hk) trivial (Below.refl _ _) (Nat.le_refl _) (by simp) ?_; (case hd => rfl); (case hg => rfl); (case hr => first | (go_simp; done) | (go_simp; rfl)); (case hp => exact (Reps.none _ _)); intro v280 w6 ho7 hb hg_ hnew_; clear hg_ hnew_; (first | rw [← Ny279.out] at ho7 | (simp only [Int.reduceToNat] at ho7; rw [← Ny279.out] at ho7)); have n0_ := Aside0.mk (Kd.R_lower ho7 (below_size (by repeat (first | (with_reducible first | exact HB.out | apply below_alloc | apply pw_below_drewN | apply below_drew1) | exact HB.out)))); have n1_ := Aside0.mk (below_step (by repeat (first | (with_reducible first | exact HB.out | apply below_alloc | apply pw_below_drewN | apply below_drew1) | exact HB.out)) hb); clear HB; have HO281 := n0_; have HB := n1_; clear n0_ n1_; clear hb ho7))
    go_loopg [8, 9] k (fun kq v8 v9 w' => ∃ (x8_1 : List (S34)) (x9_1 : Int), v9 = .int .i64 x9_1 ∧ Aside0 (spec_EventsOf.l0 kq l0 a1 t274 x8_1 x9_1 = some (r1, r2)) ∧ Aside0 (kq ≤ k) ∧ Aside0 (Kd.R k34 34 w' w.heap.size (fun _ => True) v8 x8_1) ∧ Aside0 (Below w.heap.size w w'))
    case atStart => exact ⟨(y279), (0), (by first | rfl | (simp; done) | (simp [*]; done)), H', ⟨Nat.le_refl _⟩, ⟨by (with_reducible repeat (first | apply Kd.R_alloc | apply Kd.R_drewN | apply Kd.R_drew)); exact HO281.out⟩, ⟨by repeat (first | (with_reducible first | exact HB.out | apply below_alloc | apply pw_below_drewN | apply below_drew1) | exact HB.out)⟩⟩
    case round =>
      clear H'
      try clear c1
      try clear p2
      try clear c4
      try clear c4b0
      try clear c4b1
      obtain ⟨x8_1, x9_1, rfl, HA, HK1, HO_8, HB⟩ := hrel
      cases gk with
      | zero => exact absurd HA.out (by simp [spec_EventsOf.l0])
      | succ k1 =>
        have H := HA.out
        clear HA
        simp only [spec_EventsOf.l0] at H
        by_cases c8 : x9_1 < t274
        · rw [if_pos c8] at H
          have c8b0 : decide (x9_1 < t274) = true := decide_eq_true c8
          clear c8
          have H' := Aside0.mk H
          clear H
          go_wp2
          go_loopg [8, 10] k1 (fun kq v8 v10 w' => ∃ (x8_2 : List (S34)) (x10_2 : Int), v10 = .int .i64 x10_2 ∧ Aside0 (spec_EventsOf.l1 kq l0 a1 t274 x8_2 x9_1 x10_2 = some (r1, r2)) ∧ Aside0 (kq ≤ k1) ∧ Aside0 (Kd.R k34 34 w' w.heap.size (fun _ => True) v8 x8_2) ∧ Aside0 (Below w.heap.size w w'))
          case atStart => exact ⟨(x8_1), (0), (by first | rfl | (simp; done) | (simp [*]; done)), H', ⟨Nat.le_refl _⟩, ⟨by (with_reducible repeat (first | apply Kd.R_alloc | apply Kd.R_drewN | apply Kd.R_drew)); exact HO_8.out⟩, ⟨by repeat (first | (with_reducible first | exact HB.out | apply below_alloc | apply pw_below_drewN | apply below_drew1) | exact HB.out)⟩⟩
          case round =>
            clear H'
            try clear c1
            try clear p2
            try clear c4
            try clear c4b0
            try clear c4b1
            try clear c8
            try clear c8b0
            try clear p2
            obtain ⟨x8_2, x10_2, rfl, HA, HK2, HO_8, HB⟩ := hrel
            cases gk with
            | zero => exact absurd HA.out (by simp [spec_EventsOf.l1])
            | succ k2 =>
              have H := HA.out
              clear HA
              simp only [spec_EventsOf.l1] at H
              by_cases c9 : x10_2 < (l0.length : Int)
              · rw [if_pos c9] at H
                have c9b0 : decide (x10_2 < (l0.length : Int)) = true := decide_eq_true c9
                clear c9
                by_cases c10 : 0 ≤ x10_2
                · rw [if_pos c10] at H
                  have c10b0 : decide (0 ≤ x10_2) = true := decide_eq_true c10
                  clear c10
                  replace H := Option.bind_eq_some_iff.mp H
                  obtain ⟨t283, A110, H⟩ := H
                  replace H : (if t283 ≥ a1 then (if t274 = 0 then (none) else ((spec_l04Lift.f ((rd_T51 l0 x10_2).f0) ((rd_T51 l0 x10_2).f1) ((rd_T51 l0 x10_2).f2) ((rd_T51 l0 x10_2).f3) (Int.tmod (wrap64 ((wrap64 (x9_1 + t274)) - 1)) t274)).bind fun t285 => (if t285 < a1 then (if x8_2.length < 8796093022208 then (spec_EventsOf.l1 k2 l0 a1 t274 (x8_2 ++ [(⟨x9_1, x10_2⟩ : S34)]) x9_1 (wrap64 (x10_2 + 1))) else (none)) else (spec_EventsOf.l1 k2 l0 a1 t274 x8_2 x9_1 (wrap64 (x10_2 + 1)))))) else (spec_EventsOf.l1 k2 l0 a1 t274 x8_2 x9_1 (wrap64 (x10_2 + 1)))) = some (r1, r2) := H
                  have A11 := Aside0.mk A110
                  clear A110
                  by_cases c12 : t283 ≥ a1
                  · rw [if_pos c12] at H
                    have c12b0 : decide (a1 ≤ t283) = true := decide_eq_true c12
                    clear c12
                    by_cases c13 : t274 = 0
                    · rw [if_pos c13] at H
                      exact absurd H (by simp)
                    · rw [if_neg c13] at H
                      have c13b0 : (t274 == 0) = false := beq_eq_false_iff_ne.mpr c13
                      have c13b1 : (t274 != 0) = true := bne_iff_ne.mpr c13
                      replace H := Option.bind_eq_some_iff.mp H
                      obtain ⟨t285, A140, H⟩ := H
                      replace H : (if t285 < a1 then (if x8_2.length < 8796093022208 then (spec_EventsOf.l1 k2 l0 a1 t274 (x8_2 ++ [(⟨x9_1, x10_2⟩ : S34)]) x9_1 (wrap64 (x10_2 + 1))) else (none)) else (spec_EventsOf.l1 k2 l0 a1 t274 x8_2 x9_1 (wrap64 (x10_2 + 1)))) = some (r1, r2) := H
                      have A14 := Aside0.mk A140
                      clear A140
                      by_cases c15 : t285 < a1
                      · rw [if_pos c15] at H
                        have c15b0 : decide (t285 < a1) = true := decide_eq_true c15
                        clear c15
                        by_cases c16 : x8_2.length < 8796093022208
                        · rw [if_pos c16] at H
                          have LMc16 := Aside0.mk c16
                          clear c16
                          obtain ⟨y286, hy286⟩ : ∃ y_ : List (S34), y_ = (x8_2 ++ [(⟨x9_1, x10_2⟩ : S34)]) := ⟨_, rfl⟩
                          replace H : (spec_EventsOf.l1 k2 l0 a1 t274 y286 x9_1 (wrap64 (x10_2 + 1))) = some (r1, r2) := by first | (rw [hy286]; with_reducible exact H) | (have H2_ := (Option.bind_some _ _).symm.trans H; rw [hy286]; with_reducible exact H2_) | (have H2_ := (Option.bind_some _ _).symm.trans H; with_reducible exact H2_) | with_reducible exact H | (rw [hy286]; exact H) | exact H
                          have Ny286 := Aside0.mk hy286
                          clear hy286
                          have H' := Aside0.mk H
                          clear H
                          try go_wp2
                          have n0_ := Aside0.mk (Kd.R_drew HO_8.out)
                          have n1_ := Aside0.mk (below_drew1 HB.out)
                          clear HO_8
                          clear HB
                          have HO_8 := n0_
                          have HB := n1_
                          clear n0_ n1_
                          have p282 : 0 ≤ (x10_2 : Int) := of_decide_eq_true (by first | (with_reducible assumption) | assumption)
                          have q282 : x10_2 < (l0.length : Int) := of_decide_eq_true (by first | (with_reducible assumption) | assumption)
                          obtain ⟨ad282, A282_3, c282_3, e282, hx282_0, hx282_1, hx282_2, hx282_3, hl282_3, hi282_3⟩ := at_T51 HR0.out x10_2 p282 q282
                          have hw282_3 := hx282_3
                          have hw282_2 := hx282_2
                          have hw282_1 := hx282_1
                          have hw282_0 := hx282_0
                          cases e282
                          replace hx282_0 := (HB.out.cell (World.block_lt_of_cell? w _ hx282_0)).trans hx282_0
                          replace hx282_1 := (HB.out.cell (World.block_lt_of_cell? w _ hx282_1)).trans hx282_1
                          replace hx282_2 := (HB.out.cell (World.block_lt_of_cell? w _ hx282_2)).trans hx282_2
                          replace hx282_3 := (HB.out.cell (World.block_lt_of_cell? w _ hx282_3)).trans hx282_3
                          have HR282_3 := Aside0.mk hi282_3
                          have HC282_3 := Aside0.mk hl282_3
                          clear hi282_3 hl282_3
                          replace p282 := eq_true p282
                          replace q282 := eq_true q282
                          have p284 : 0 ≤ (x10_2 : Int) := of_decide_eq_true (by first | (with_reducible assumption) | assumption)
                          have q284 : x10_2 < (l0.length : Int) := of_decide_eq_true (by first | (with_reducible assumption) | assumption)
                          obtain ⟨ad284, A284_3, c284_3, e284, hx284_0, hx284_1, hx284_2, hx284_3, hl284_3, hi284_3⟩ := at_T51 HR0.out x10_2 p284 q284
                          have hw284_3 := hx284_3
                          have hw284_2 := hx284_2
                          have hw284_1 := hx284_1
                          have hw284_0 := hx284_0
                          obtain rfl : ad282 = ad284 := (by injection e284)
                          replace hx284_0 := (HB.out.cell (World.block_lt_of_cell? w _ hx284_0)).trans hx284_0
                          replace hx284_1 := (HB.out.cell (World.block_lt_of_cell? w _ hx284_1)).trans hx284_1
                          replace hx284_2 := (HB.out.cell (World.block_lt_of_cell? w _ hx284_2)).trans hx284_2
                          replace hx284_3 := (HB.out.cell (World.block_lt_of_cell? w _ hx284_3)).trans hx284_3
                          have HR284_3 := Aside0.mk hi284_3
                          have HC284_3 := Aside0.mk hl284_3
                          clear hi284_3 hl284_3
                          replace p284 := eq_true p284
                          replace q284 := eq_true q284
                          have ea_ := Option.some.inj (hx282_3.symm.trans hx284_3)
                          injection ea_ with ea_ en_ ec_
                          subst ea_
                          subst ec_
                          clear en_
                          refine start_ (n := 21) (S := fun w' => w'.cell? (ad282.add ((x10_2).toNat * 4)) = some (.int .i16 ((rd_T51 l0 x10_2).f0)) ∧ w'.cell? ⟨(ad282.add ((x10_2).toNat * 4)).block, (ad282.add ((x10_2).toNat * 4)).off + 1, none⟩ = some (.int .i16 ((rd_T51 l0 x10_2).f1)) ∧ w'.cell? ⟨(ad282.add ((x10_2).toNat * 4)).block, (ad282.add ((x10_2).toNat * 4)).off + 2, none⟩ = some (.int .i16 ((rd_T51 l0 x10_2).f2)) ∧ w'.cell? ⟨(ad282.add ((x10_2).toNat * 4)).block, (ad282.add ((x10_2).toNat * 4)).off + 3, none⟩ = some (.slice A282_3 ((rd_T51 l0 x10_2).f3).length c282_3) ∧ w'.cell? (ad282.add ((x10_2).toNat * 4)) = some (.int .i16 ((rd_T51 l0 x10_2).f0)) ∧ w'.cell? ⟨(ad282.add ((x10_2).toNat * 4)).block, (ad282.add ((x10_2).toNat * 4)).off + 1, none⟩ = some (.int .i16 ((rd_T51 l0 x10_2).f1)) ∧ w'.cell? ⟨(ad282.add ((x10_2).toNat * 4)).block, (ad282.add ((x10_2).toNat * 4)).off + 2, none⟩ = some (.int .i16 ((rd_T51 l0 x10_2).f2)) ∧ w'.cell? ⟨(ad282.add ((x10_2).toNat * 4)).block, (ad282.add ((x10_2).toNat * 4)).off + 3, none⟩ = some (.slice A282_3 ((rd_T51 l0 x10_2).f3).length c282_3)) (ds := []) #[false, false, false, false, false, false, false, false, false, false, false, false, false, false, false, false, false, false, false, false, false] (by kernel_rfl) rfl rfl ⟨(by first | exact ((HB.out.cell (World.block_lt_of_cell? w _ hw282_0)).trans hw282_0) | exact ((HB.out.cell (World.block_lt_of_cell? w _ hv282_0)).trans hv282_0) | exact hx282_0), (by first | exact ((HB.out.cell (World.block_lt_of_cell? w _ hw282_1)).trans hw282_1) | exact ((HB.out.cell (World.block_lt_of_cell? w _ hv282_1)).trans hv282_1) | exact hx282_1), (by first | exact ((HB.out.cell (World.block_lt_of_cell? w _ hw282_2)).trans hw282_2) | exact ((HB.out.cell (World.block_lt_of_cell? w _ hv282_2)).trans hv282_2) | exact hx282_2), (by first | exact ((HB.out.cell (World.block_lt_of_cell? w _ hw282_3)).trans hw282_3) | exact ((HB.out.cell (World.block_lt_of_cell? w _ hv282_3)).trans hv282_3) | exact hx282_3), (by first | exact ((HB.out.cell (World.block_lt_of_cell? w _ hw284_0)).trans hw284_0) | exact ((HB.out.cell (World.block_lt_of_cell? w _ hv284_0)).trans hv284_0) | exact hx284_0), (by first | exact ((HB.out.cell (World.block_lt_of_cell? w _ hw284_1)).trans hw284_1) | exact ((HB.out.cell (World.block_lt_of_cell? w _ hv284_1)).trans hv284_1) | exact hx284_1), (by first | exact ((HB.out.cell (World.block_lt_of_cell? w _ hw284_2)).trans hw284_2) | exact ((HB.out.cell (World.block_lt_of_cell? w _ hv284_2)).trans hv284_2) | exact hx284_2), (by first | exact ((HB.out.cell (World.block_lt_of_cell? w _ hw284_3)).trans hw284_3) | exact ((HB.out.cell (World.block_lt_of_cell? w _ hv284_3)).trans hv284_3) | exact hx284_3)⟩ (fun hHeld => ?_); refine with_tabW spec_EventsOf.tab11 spec_EventsOf.bits11 (fun HT_ HW_ => ?_)
                          generalize wr.drew = w17 at HO_8 HB HR282_3 HR284_3 hx282_0 hx282_1 hx282_2 hx282_3 hx284_0 hx284_1 hx284_2 hx284_3 hHeld ⊢
                          refine pure_ (i := 0) (N := some 33) (v := ?_) (a' := ?_) #[true, false, false, false, false, false, false, false, false, false, false, false, false, false, false, false, false, false, false, false, false] rfl rfl (any_of HT_.out (by kernel_rfl)) (fun _ _ _ h => h) (Or.inl ⟨by rfl, ?_⟩) ?_ ?_
                          rotate_left
                          · intro w'
                            go_simp
                            with_reducible rfl
                          rotate_left
                          · simp only [Act.put, List.setIfInBounds_toArray, List.set_cons_zero, List.set_cons_succ, i64_w, i32_w]
                            rfl
                          refine pure_ (i := 1) (N := some 34) (v := ?_) (a' := ?_) #[true, true, false, false, false, false, false, false, false, false, false, false, false, false, false, false, false, false, false, false, false] rfl rfl (any_of HT_.out (by kernel_rfl)) (fun _ _ _ h => h) (Or.inl ⟨by rfl, ?_⟩) ?_ ?_
                          rotate_left
                          · intro w'
                            go_simp
                            with_reducible rfl
                          rotate_left
                          · simp only [Act.put, List.setIfInBounds_toArray, List.set_cons_zero, List.set_cons_succ, i64_w, i32_w]
                            rfl
                          refine pure_ (i := 2) (N := some 35) (v := ?_) (a' := ?_) #[true, true, true, false, false, false, false, false, false, false, false, false, false, false, false, false, false, false, false, false, false] rfl rfl (any_of HT_.out (by kernel_rfl)) (fun _ _ _ h => h) (Or.inl ⟨by rfl, ?_⟩) ?_ ?_
                          rotate_left
                          · intro w'
                            go_simp
                            with_reducible rfl
                          rotate_left
                          · simp only [Act.put, List.setIfInBounds_toArray, List.set_cons_zero, List.set_cons_succ, i64_w, i32_w]
                            rfl
                          refine pure_ (i := 3) (N := some 36) (v := ?_) (a' := ?_) #[true, true, true, true, false, false, false, false, false, false, false, false, false, false, false, false, false, false, false, false, false] rfl rfl (any_of HT_.out (by kernel_rfl)) (fun _ _ _ h => h) (Or.inl ⟨by rfl, ?_⟩) ?_ ?_
                          rotate_left
                          · intro w'
                            go_simp
                            with_reducible rfl
                          rotate_left
                          · simp only [Act.put, List.setIfInBounds_toArray, List.set_cons_zero, List.set_cons_succ, i64_w, i32_w]
                            rfl
                          refine pure_ (i := 5) (N := some 38) (v := ?_) (a' := ?_) #[true, true, true, true, false, true, false, false, false, false, false, false, false, false, false, false, false, false, false, false, false] rfl rfl (any_of HT_.out (by kernel_rfl)) (fun _ _ _ h => h) (Or.inl ⟨by rfl, ?_⟩) ?_ ?_
                          rotate_left
                          · intro w'
                            go_simp
                            with_reducible rfl
                          rotate_left
                          · simp only [Act.put, List.setIfInBounds_toArray, List.set_cons_zero, List.set_cons_succ, i64_w, i32_w]
                            rfl
                          refine one_ (i := 4) (N := some 37) #[true, true, true, true, true, true, false, false, false, false, false, false, false, false, false, false, false, false, false, false, false] rfl rfl (one_of HT_.out (by kernel_rfl)) (by decide) (fun K hK => ?_)
                          refine goes_ Try.func18 (by kernel_rfl) rfl #[.pointer (some _), .int .i64 x9_1] (by rfl) rfl rfl (by (try simp only [List.map_toArray, List.map_cons, List.map_nil]); first | done | rfl | (simp only [List.length_drop, List.length_take]; rfl)) ?_
                          with_reducible refine (spec_l04Lift.calls ((rd_T51 l0 x10_2).f0) ((rd_T51 l0 x10_2).f1) ((rd_T51 l0 x10_2).f2) A282_3 c282_3 ((rd_T51 l0 x10_2).f3) x9_1 t283 _ ?side1 ?side2 ?side3 ?side4 ?side5 ?side6 A11.out).mono ?_
                          (case side1 => repeat (first | exact (Kd.C_below HR282_3.out HB.out) | (with_reducible refine Kd.C_alloc ?_ _) | (with_reducible refine Kd.C_drewN ?_ _) | (with_reducible refine Kd.C_drew ?_)))
                          (case side2 => exact HC282_3.out)
                          (case side3 => (repeat (first | exact hx282_0 | exact pw_cell_below HB.out hx282_0 | (with_reducible refine xq_drewN ?_ _) | (with_reducible refine xq_drew ?_) | (with_reducible refine xq_alloc ?_ _))))
                          (case side4 => (repeat (first | exact hx282_1 | exact pw_cell_below HB.out hx282_1 | (with_reducible refine xq_drewN ?_ _) | (with_reducible refine xq_drew ?_) | (with_reducible refine xq_alloc ?_ _))))
                          (case side5 => (repeat (first | exact hx282_2 | exact pw_cell_below HB.out hx282_2 | (with_reducible refine xq_drewN ?_ _) | (with_reducible refine xq_drew ?_) | (with_reducible refine xq_alloc ?_ _))))
                          (case side6 => (repeat (first | exact hx282_3 | exact pw_cell_below HB.out hx282_3 | (with_reducible refine xq_drewN ?_ _) | (with_reducible refine xq_drew ?_) | (with_reducible refine xq_alloc ?_ _))))
                          rintro e w' ⟨rfl, ⟨nd, rfl⟩⟩
                          refine ⟨_, rfl, ?_⟩
                          refine hK.out _ _ ⟨(by first | exact ((HB.out.cell (World.block_lt_of_cell? w _ hw282_0)).trans hw282_0) | exact ((HB.out.cell (World.block_lt_of_cell? w _ hv282_0)).trans hv282_0) | exact hx282_0), (by first | exact ((HB.out.cell (World.block_lt_of_cell? w _ hw282_1)).trans hw282_1) | exact ((HB.out.cell (World.block_lt_of_cell? w _ hv282_1)).trans hv282_1) | exact hx282_1), (by first | exact ((HB.out.cell (World.block_lt_of_cell? w _ hw282_2)).trans hw282_2) | exact ((HB.out.cell (World.block_lt_of_cell? w _ hv282_2)).trans hv282_2) | exact hx282_2), (by first | exact ((HB.out.cell (World.block_lt_of_cell? w _ hw282_3)).trans hw282_3) | exact ((HB.out.cell (World.block_lt_of_cell? w _ hv282_3)).trans hv282_3) | exact hx282_3), (by first | exact ((HB.out.cell (World.block_lt_of_cell? w _ hw284_0)).trans hw284_0) | exact ((HB.out.cell (World.block_lt_of_cell? w _ hv284_0)).trans hv284_0) | exact hx284_0), (by first | exact ((HB.out.cell (World.block_lt_of_cell? w _ hw284_1)).trans hw284_1) | exact ((HB.out.cell (World.block_lt_of_cell? w _ hv284_1)).trans hv284_1) | exact hx284_1), (by first | exact ((HB.out.cell (World.block_lt_of_cell? w _ hw284_2)).trans hw284_2) | exact ((HB.out.cell (World.block_lt_of_cell? w _ hv284_2)).trans hv284_2) | exact hx284_2), (by first | exact ((HB.out.cell (World.block_lt_of_cell? w _ hw284_3)).trans hw284_3) | exact ((HB.out.cell (World.block_lt_of_cell? w _ hv284_3)).trans hv284_3) | exact hx284_3)⟩ (fun hHeld => ?_)
                          clear hK K
                          refine norm_ (a' := ?_) ?_ ?_
                          rotate_left
                          · show Act.put _ (some 37) _ = _
                            simp only [Act.put, List.setIfInBounds_toArray, List.set_cons_zero, List.set_cons_succ, i64_w, i32_w]
                            rfl
                          refine pure_ (i := 6) (N := some 39) (v := ?_) (a' := ?_) #[true, true, true, true, true, true, true, false, false, false, false, false, false, false, false, false, false, false, false, false, false] rfl rfl (any_of HT_.out (by kernel_rfl)) (fun _ _ _ h => h) (Or.inl ⟨by rfl, ?_⟩) ?_ ?_
                          rotate_left
                          · intro w'
                            go_simp
                            with_reducible rfl
                          rotate_left
                          · simp only [Act.put, List.setIfInBounds_toArray, List.set_cons_zero, List.set_cons_succ, i64_w, i32_w]
                            rfl
                          refine pure_ (i := 7) (N := some 40) (v := ?_) (a' := ?_) #[true, true, true, true, true, true, true, true, false, false, false, false, false, false, false, false, false, false, false, false, false] rfl rfl (any_of HT_.out (by kernel_rfl)) (fun _ _ _ h => h) (Or.inl ⟨by rfl, ?_⟩) ?_ ?_
                          rotate_left
                          · intro w'
                            go_simp
                            with_reducible rfl
                          rotate_left
                          · simp only [Act.put, List.setIfInBounds_toArray, List.set_cons_zero, List.set_cons_succ, i64_w, i32_w]
                            rfl
                          refine pure_ (i := 8) (N := some 41) (v := ?_) (a' := ?_) #[true, true, true, true, true, true, true, true, true, false, false, false, false, false, false, false, false, false, false, false, false] rfl rfl (any_of HT_.out (by kernel_rfl)) (fun _ _ _ h => h) (Or.inl ⟨by rfl, ?_⟩) ?_ ?_
                          rotate_left
                          · intro w'
                            go_simp
                            with_reducible rfl
                          rotate_left
                          · simp only [Act.put, List.setIfInBounds_toArray, List.set_cons_zero, List.set_cons_succ, i64_w, i32_w]
                            rfl
                          refine pure_ (i := 9) (N := some 42) (v := ?_) (a' := ?_) #[true, true, true, true, true, true, true, true, true, true, false, false, false, false, false, false, false, false, false, false, false] rfl rfl (any_of HT_.out (by kernel_rfl)) (fun _ _ _ h => h) (Or.inl ⟨by rfl, ?_⟩) ?_ ?_
                          rotate_left
                          · intro w'
                            go_simp
                            with_reducible rfl
                          rotate_left
                          · simp only [Act.put, List.setIfInBounds_toArray, List.set_cons_zero, List.set_cons_succ, i64_w, i32_w]
                            rfl
                          refine pure_ (i := 10) (N := some 43) (v := ?_) (a' := ?_) #[true, true, true, true, true, true, true, true, true, true, true, false, false, false, false, false, false, false, false, false, false] rfl rfl (any_of HT_.out (by kernel_rfl)) (fun _ _ _ h => h) (Or.inl ⟨by rfl, ?_⟩) ?_ ?_
                          rotate_left
                          · intro w'
                            go_simp
                            with_reducible rfl
                          rotate_left
                          · simp only [Act.put, List.setIfInBounds_toArray, List.set_cons_zero, List.set_cons_succ, i64_w, i32_w]
                            rfl
                          refine pure_ (i := 11) (N := some 44) (v := ?_) (a' := ?_) #[true, true, true, true, true, true, true, true, true, true, true, true, false, false, false, false, false, false, false, false, false] rfl rfl (any_of HT_.out (by kernel_rfl)) (fun _ _ _ h => h) (Or.inl ⟨by rfl, ?_⟩) ?_ ?_
                          rotate_left
                          · intro w'
                            go_simp
                            with_reducible rfl
                          rotate_left
                          · simp only [Act.put, List.setIfInBounds_toArray, List.set_cons_zero, List.set_cons_succ, i64_w, i32_w]
                            rfl
                          refine pure_ (i := 12) (N := some 45) (v := ?_) (a' := ?_) #[true, true, true, true, true, true, true, true, true, true, true, true, true, false, false, false, false, false, false, false, false] rfl rfl (any_of HT_.out (by kernel_rfl)) (fun _ _ _ h => h) (Or.inl ⟨by rfl, ?_⟩) ?_ ?_
                          rotate_left
                          · intro w'
                            go_simp
                            with_reducible rfl
                          rotate_left
                          · simp only [Act.put, List.setIfInBounds_toArray, List.set_cons_zero, List.set_cons_succ, i64_w, i32_w]
                            rfl
                          refine pure_ (i := 13) (N := some 46) (v := ?_) (a' := ?_) #[true, true, true, true, true, true, true, true, true, true, true, true, true, true, false, false, false, false, false, false, false] rfl rfl (any_of HT_.out (by kernel_rfl)) (fun _ _ _ h => h) (Or.inl ⟨by rfl, ?_⟩) ?_ ?_
                          rotate_left
                          · intro w'
                            go_simp
                            with_reducible rfl
                          rotate_left
                          · simp only [Act.put, List.setIfInBounds_toArray, List.set_cons_zero, List.set_cons_succ, i64_w, i32_w]
                            rfl
                          refine pure_ (i := 14) (N := some 47) (v := ?_) (a' := ?_) #[true, true, true, true, true, true, true, true, true, true, true, true, true, true, true, false, false, false, false, false, false] rfl rfl (any_of HT_.out (by kernel_rfl)) (fun _ _ _ h => h) (Or.inl ⟨by rfl, ?_⟩) ?_ ?_
                          rotate_left
                          · intro w'
                            go_simp
                            with_reducible rfl
                          rotate_left
                          · simp only [Act.put, List.setIfInBounds_toArray, List.set_cons_zero, List.set_cons_succ, i64_w, i32_w]
                            rfl
                          refine pure_ (i := 15) (N := some 48) (v := ?_) (a' := ?_) #[true, true, true, true, true, true, true, true, true, true, true, true, true, true, true, true, false, false, false, false, false] rfl rfl (any_of HT_.out (by kernel_rfl)) (fun _ _ _ h => h) (Or.inl ⟨by rfl, ?_⟩) ?_ ?_
                          rotate_left
                          · intro w'
                            go_simp
                            with_reducible rfl
                          rotate_left
                          · simp only [Act.put, List.setIfInBounds_toArray, List.set_cons_zero, List.set_cons_succ, i64_w, i32_w]
                            rfl
                          refine pure_ (i := 16) (N := some 49) (v := ?_) (a' := ?_) #[true, true, true, true, true, true, true, true, true, true, true, true, true, true, true, true, true, false, false, false, false] rfl rfl (any_of HT_.out (by kernel_rfl)) (fun _ _ _ h => h) (Or.inl ⟨by rfl, ?_⟩) ?_ ?_
                          rotate_left
                          · intro w'
                            go_simp
                            with_reducible rfl
                          rotate_left
                          · simp only [Act.put, List.setIfInBounds_toArray, List.set_cons_zero, List.set_cons_succ, i64_w, i32_w]
                            rfl
                          refine pure_ (i := 18) (N := some 51) (v := ?_) (a' := ?_) #[true, true, true, true, true, true, true, true, true, true, true, true, true, true, true, true, true, false, true, false, false] rfl rfl (any_of HT_.out (by kernel_rfl)) (fun _ _ _ h => h) (Or.inl ⟨by rfl, ?_⟩) ?_ ?_
                          rotate_left
                          · intro w'
                            go_simp
                            with_reducible rfl
                          rotate_left
                          · simp only [Act.put, List.setIfInBounds_toArray, List.set_cons_zero, List.set_cons_succ, i64_w, i32_w]
                            rfl
                          refine one_ (i := 17) (N := some 50) #[true, true, true, true, true, true, true, true, true, true, true, true, true, true, true, true, true, true, true, false, false] rfl rfl (one_of HT_.out (by kernel_rfl)) (by decide) (fun K hK => ?_)
                          refine goes_ Try.func18 (by kernel_rfl) rfl #[.pointer (some _), .int .i64 (Int.tmod (wrap64 ((wrap64 (x9_1 + t274)) - 1)) t274)] (by rfl) rfl rfl (by (try simp only [List.map_toArray, List.map_cons, List.map_nil]); first | done | rfl | (simp only [List.length_drop, List.length_take]; rfl)) ?_
                          with_reducible refine (spec_l04Lift.calls ((rd_T51 l0 x10_2).f0) ((rd_T51 l0 x10_2).f1) ((rd_T51 l0 x10_2).f2) A282_3 c282_3 ((rd_T51 l0 x10_2).f3) (Int.tmod (wrap64 ((wrap64 (x9_1 + t274)) - 1)) t274) t285 _ ?side1 ?side2 ?side3 ?side4 ?side5 ?side6 A14.out).mono ?_
                          (case side1 => repeat (first | exact (Kd.C_below HR284_3.out (by repeat (first | (with_reducible first | exact HB.out | apply below_alloc | apply pw_below_drewN | apply below_drew1) | exact HB.out))) | (with_reducible refine Kd.C_alloc ?_ _) | (with_reducible refine Kd.C_drewN ?_ _) | (with_reducible refine Kd.C_drew ?_)))
                          (case side2 => exact HC284_3.out)
                          (case side3 => (repeat (first | exact hx284_0 | exact pw_cell_below HB.out hx284_0 | (with_reducible refine xq_drewN ?_ _) | (with_reducible refine xq_drew ?_) | (with_reducible refine xq_alloc ?_ _))))
                          (case side4 => (repeat (first | exact hx284_1 | exact pw_cell_below HB.out hx284_1 | (with_reducible refine xq_drewN ?_ _) | (with_reducible refine xq_drew ?_) | (with_reducible refine xq_alloc ?_ _))))
                          (case side5 => (repeat (first | exact hx284_2 | exact pw_cell_below HB.out hx284_2 | (with_reducible refine xq_drewN ?_ _) | (with_reducible refine xq_drew ?_) | (with_reducible refine xq_alloc ?_ _))))
                          (case side6 => (repeat (first | exact hx284_3 | exact pw_cell_below HB.out hx284_3 | (with_reducible refine xq_drewN ?_ _) | (with_reducible refine xq_drew ?_) | (with_reducible refine xq_alloc ?_ _))))
                          rintro e w' ⟨rfl, ⟨nd, rfl⟩⟩
                          refine ⟨_, rfl, ?_⟩
                          refine hK.out _ _ ⟨(by first | exact ((HB.out.cell (World.block_lt_of_cell? w _ hw282_0)).trans hw282_0) | exact ((HB.out.cell (World.block_lt_of_cell? w _ hv282_0)).trans hv282_0) | exact hx282_0), (by first | exact ((HB.out.cell (World.block_lt_of_cell? w _ hw282_1)).trans hw282_1) | exact ((HB.out.cell (World.block_lt_of_cell? w _ hv282_1)).trans hv282_1) | exact hx282_1), (by first | exact ((HB.out.cell (World.block_lt_of_cell? w _ hw282_2)).trans hw282_2) | exact ((HB.out.cell (World.block_lt_of_cell? w _ hv282_2)).trans hv282_2) | exact hx282_2), (by first | exact ((HB.out.cell (World.block_lt_of_cell? w _ hw282_3)).trans hw282_3) | exact ((HB.out.cell (World.block_lt_of_cell? w _ hv282_3)).trans hv282_3) | exact hx282_3), (by first | exact ((HB.out.cell (World.block_lt_of_cell? w _ hw284_0)).trans hw284_0) | exact ((HB.out.cell (World.block_lt_of_cell? w _ hv284_0)).trans hv284_0) | exact hx284_0), (by first | exact ((HB.out.cell (World.block_lt_of_cell? w _ hw284_1)).trans hw284_1) | exact ((HB.out.cell (World.block_lt_of_cell? w _ hv284_1)).trans hv284_1) | exact hx284_1), (by first | exact ((HB.out.cell (World.block_lt_of_cell? w _ hw284_2)).trans hw284_2) | exact ((HB.out.cell (World.block_lt_of_cell? w _ hv284_2)).trans hv284_2) | exact hx284_2), (by first | exact ((HB.out.cell (World.block_lt_of_cell? w _ hw284_3)).trans hw284_3) | exact ((HB.out.cell (World.block_lt_of_cell? w _ hv284_3)).trans hv284_3) | exact hx284_3)⟩ (fun hHeld => ?_)
                          clear hK K
                          refine norm_ (a' := ?_) ?_ ?_
                          rotate_left
                          · show Act.put _ (some 50) _ = _
                            simp only [Act.put, List.setIfInBounds_toArray, List.set_cons_zero, List.set_cons_succ, i64_w, i32_w]
                            rfl
                          refine pure_ (i := 19) (N := some 52) (v := ?_) (a' := ?_) #[true, true, true, true, true, true, true, true, true, true, true, true, true, true, true, true, true, true, true, true, false] rfl rfl (any_of HT_.out (by kernel_rfl)) (fun _ _ _ h => h) (Or.inl ⟨by rfl, ?_⟩) ?_ ?_
                          rotate_left
                          · intro w'
                            go_simp
                            with_reducible rfl
                          rotate_left
                          · simp only [Act.put, List.setIfInBounds_toArray, List.set_cons_zero, List.set_cons_succ, i64_w, i32_w]
                            rfl
                          refine pure_ (i := 20) (N := some 53) (v := ?_) (a' := ?_) #[true, true, true, true, true, true, true, true, true, true, true, true, true, true, true, true, true, true, true, true, true] rfl rfl (any_of HT_.out (by kernel_rfl)) (fun _ _ _ h => h) (Or.inl ⟨by rfl, ?_⟩) ?_ ?_
                          rotate_left
                          · intro w'
                            go_simp
                            with_reducible rfl
                          rotate_left
                          · simp only [Act.put, List.setIfInBounds_toArray, List.set_cons_zero, List.set_cons_succ, i64_w, i32_w]
                            rfl
                          refine done_ (done_of HT_.out (by kernel_rfl)) ?_
                          try go_wp2_with (first | ((with_reducible refine gate_builtin (b := .append) (xs := #[.tmp 54, .tmp 58]) rfl ?_); at_builtin; refine Kd.R_append k34 (w0 := w) w.heap.size rfl (.tmp 54) (.tmp 58) 27 34 (.agg #[(.int .i64 0), (.int .i64 0)]) 16 rfl Try.underlying27 info34 rfl (by decide) (by omega) u8 x8_2 (⟨x9_1, x10_2⟩ : S34) [.int .i64 x9_1, .int .i64 x10_2] (fun _ => True) (fun _ => False) rfl rfl ?aP (fun _ hk => hk.elim) ?aF ?aO ?aB ?aS ?aL ?_; (case aP => exact k34_mkM _ _ _ (⟨x9_1, x10_2⟩ : S34)); (case aB => exact (by repeat (first | (with_reducible first | exact HB.out | apply below_alloc | apply pw_below_drewN | apply below_drew1) | exact HB.out))); (case aF => exact (fun _ _ => trivial)); (case aO => exact (by (with_reducible repeat (first | apply Kd.R_alloc | apply Kd.R_drewN | apply Kd.R_drew)); exact HO_8.out)); (case aS => exact (below_size (by repeat (first | (with_reducible first | exact HB.out | apply below_alloc | apply pw_below_drewN | apply below_drew1) | exact HB.out)))); (case aL => have := LMc16.out; omega); intro v287 w18 ho hb hg hat; rw [← Ny286.out] at ho; have n0_ := Aside0.mk (hb); have n1_ := Aside0.mk (ho); clear HB; clear HO_8; have HB := n0_; have HO288 := n1_; clear n0_ n1_; clear ho hb hg hat))
                          go_roundg k2
                          case measure => have := HK1.out; have := HK2.out; omega
                          case rel => exact ⟨(y286), (wrap64 (x10_2 + 1)), (by first | rfl | (simp; done) | (simp [*]; done)), H', ⟨by have := HK1.out; have := HK2.out; omega⟩, ⟨by (with_reducible repeat (first | apply Kd.R_alloc | apply Kd.R_drewN | apply Kd.R_drew)); exact HO288.out⟩, ⟨by repeat (first | (with_reducible first | exact HB.out | apply below_alloc | apply pw_below_drewN | apply below_drew1) | exact HB.out)⟩⟩
                        · rw [if_neg c16] at H
                          exact absurd H (by simp)
                      · rw [if_neg c15] at H
                        have c15b0 : decide (t285 < a1) = false := decide_eq_false c15
                        clear c15
                        have H' := Aside0.mk H
                        clear H
                        try go_wp2
                        have n0_ := Aside0.mk (Kd.R_drew HO_8.out)
                        have n1_ := Aside0.mk (below_drew1 HB.out)
                        clear HO_8
                        clear HB
                        have HO_8 := n0_
                        have HB := n1_
                        clear n0_ n1_
                        have p282 : 0 ≤ (x10_2 : Int) := of_decide_eq_true (by first | (with_reducible assumption) | assumption)
                        have q282 : x10_2 < (l0.length : Int) := of_decide_eq_true (by first | (with_reducible assumption) | assumption)
                        obtain ⟨ad282, A282_3, c282_3, e282, hx282_0, hx282_1, hx282_2, hx282_3, hl282_3, hi282_3⟩ := at_T51 HR0.out x10_2 p282 q282
                        have hw282_3 := hx282_3
                        have hw282_2 := hx282_2
                        have hw282_1 := hx282_1
                        have hw282_0 := hx282_0
                        cases e282
                        replace hx282_0 := (HB.out.cell (World.block_lt_of_cell? w _ hx282_0)).trans hx282_0
                        replace hx282_1 := (HB.out.cell (World.block_lt_of_cell? w _ hx282_1)).trans hx282_1
                        replace hx282_2 := (HB.out.cell (World.block_lt_of_cell? w _ hx282_2)).trans hx282_2
                        replace hx282_3 := (HB.out.cell (World.block_lt_of_cell? w _ hx282_3)).trans hx282_3
                        have HR282_3 := Aside0.mk hi282_3
                        have HC282_3 := Aside0.mk hl282_3
                        clear hi282_3 hl282_3
                        replace p282 := eq_true p282
                        replace q282 := eq_true q282
                        have p284 : 0 ≤ (x10_2 : Int) := of_decide_eq_true (by first | (with_reducible assumption) | assumption)
                        have q284 : x10_2 < (l0.length : Int) := of_decide_eq_true (by first | (with_reducible assumption) | assumption)
                        obtain ⟨ad284, A284_3, c284_3, e284, hx284_0, hx284_1, hx284_2, hx284_3, hl284_3, hi284_3⟩ := at_T51 HR0.out x10_2 p284 q284
                        have hw284_3 := hx284_3
                        have hw284_2 := hx284_2
                        have hw284_1 := hx284_1
                        have hw284_0 := hx284_0
                        obtain rfl : ad282 = ad284 := (by injection e284)
                        replace hx284_0 := (HB.out.cell (World.block_lt_of_cell? w _ hx284_0)).trans hx284_0
                        replace hx284_1 := (HB.out.cell (World.block_lt_of_cell? w _ hx284_1)).trans hx284_1
                        replace hx284_2 := (HB.out.cell (World.block_lt_of_cell? w _ hx284_2)).trans hx284_2
                        replace hx284_3 := (HB.out.cell (World.block_lt_of_cell? w _ hx284_3)).trans hx284_3
                        have HR284_3 := Aside0.mk hi284_3
                        have HC284_3 := Aside0.mk hl284_3
                        clear hi284_3 hl284_3
                        replace p284 := eq_true p284
                        replace q284 := eq_true q284
                        have ea_ := Option.some.inj (hx282_3.symm.trans hx284_3)
                        injection ea_ with ea_ en_ ec_
                        subst ea_
                        subst ec_
                        clear en_
                        refine start_ (n := 21) (S := fun w' => w'.cell? (ad282.add ((x10_2).toNat * 4)) = some (.int .i16 ((rd_T51 l0 x10_2).f0)) ∧ w'.cell? ⟨(ad282.add ((x10_2).toNat * 4)).block, (ad282.add ((x10_2).toNat * 4)).off + 1, none⟩ = some (.int .i16 ((rd_T51 l0 x10_2).f1)) ∧ w'.cell? ⟨(ad282.add ((x10_2).toNat * 4)).block, (ad282.add ((x10_2).toNat * 4)).off + 2, none⟩ = some (.int .i16 ((rd_T51 l0 x10_2).f2)) ∧ w'.cell? ⟨(ad282.add ((x10_2).toNat * 4)).block, (ad282.add ((x10_2).toNat * 4)).off + 3, none⟩ = some (.slice A282_3 ((rd_T51 l0 x10_2).f3).length c282_3) ∧ w'.cell? (ad282.add ((x10_2).toNat * 4)) = some (.int .i16 ((rd_T51 l0 x10_2).f0)) ∧ w'.cell? ⟨(ad282.add ((x10_2).toNat * 4)).block, (ad282.add ((x10_2).toNat * 4)).off + 1, none⟩ = some (.int .i16 ((rd_T51 l0 x10_2).f1)) ∧ w'.cell? ⟨(ad282.add ((x10_2).toNat * 4)).block, (ad282.add ((x10_2).toNat * 4)).off + 2, none⟩ = some (.int .i16 ((rd_T51 l0 x10_2).f2)) ∧ w'.cell? ⟨(ad282.add ((x10_2).toNat * 4)).block, (ad282.add ((x10_2).toNat * 4)).off + 3, none⟩ = some (.slice A282_3 ((rd_T51 l0 x10_2).f3).length c282_3)) (ds := []) #[false, false, false, false, false, false, false, false, false, false, false, false, false, false, false, false, false, false, false, false, false] (by kernel_rfl) rfl rfl ⟨(by first | exact ((HB.out.cell (World.block_lt_of_cell? w _ hw282_0)).trans hw282_0) | exact ((HB.out.cell (World.block_lt_of_cell? w _ hv282_0)).trans hv282_0) | exact hx282_0), (by first | exact ((HB.out.cell (World.block_lt_of_cell? w _ hw282_1)).trans hw282_1) | exact ((HB.out.cell (World.block_lt_of_cell? w _ hv282_1)).trans hv282_1) | exact hx282_1), (by first | exact ((HB.out.cell (World.block_lt_of_cell? w _ hw282_2)).trans hw282_2) | exact ((HB.out.cell (World.block_lt_of_cell? w _ hv282_2)).trans hv282_2) | exact hx282_2), (by first | exact ((HB.out.cell (World.block_lt_of_cell? w _ hw282_3)).trans hw282_3) | exact ((HB.out.cell (World.block_lt_of_cell? w _ hv282_3)).trans hv282_3) | exact hx282_3), (by first | exact ((HB.out.cell (World.block_lt_of_cell? w _ hw284_0)).trans hw284_0) | exact ((HB.out.cell (World.block_lt_of_cell? w _ hv284_0)).trans hv284_0) | exact hx284_0), (by first | exact ((HB.out.cell (World.block_lt_of_cell? w _ hw284_1)).trans hw284_1) | exact ((HB.out.cell (World.block_lt_of_cell? w _ hv284_1)).trans hv284_1) | exact hx284_1), (by first | exact ((HB.out.cell (World.block_lt_of_cell? w _ hw284_2)).trans hw284_2) | exact ((HB.out.cell (World.block_lt_of_cell? w _ hv284_2)).trans hv284_2) | exact hx284_2), (by first | exact ((HB.out.cell (World.block_lt_of_cell? w _ hw284_3)).trans hw284_3) | exact ((HB.out.cell (World.block_lt_of_cell? w _ hv284_3)).trans hv284_3) | exact hx284_3)⟩ (fun hHeld => ?_); refine with_tabW spec_EventsOf.tab11 spec_EventsOf.bits11 (fun HT_ HW_ => ?_)
                        generalize wr.drew = w19 at HO_8 HB HR282_3 HR284_3 hx282_0 hx282_1 hx282_2 hx282_3 hx284_0 hx284_1 hx284_2 hx284_3 hHeld ⊢
                        refine pure_ (i := 0) (N := some 33) (v := ?_) (a' := ?_) #[true, false, false, false, false, false, false, false, false, false, false, false, false, false, false, false, false, false, false, false, false] rfl rfl (any_of HT_.out (by kernel_rfl)) (fun _ _ _ h => h) (Or.inl ⟨by rfl, ?_⟩) ?_ ?_
                        rotate_left
                        · intro w'
                          go_simp
                          with_reducible rfl
                        rotate_left
                        · simp only [Act.put, List.setIfInBounds_toArray, List.set_cons_zero, List.set_cons_succ, i64_w, i32_w]
                          rfl
                        refine pure_ (i := 1) (N := some 34) (v := ?_) (a' := ?_) #[true, true, false, false, false, false, false, false, false, false, false, false, false, false, false, false, false, false, false, false, false] rfl rfl (any_of HT_.out (by kernel_rfl)) (fun _ _ _ h => h) (Or.inl ⟨by rfl, ?_⟩) ?_ ?_
                        rotate_left
                        · intro w'
                          go_simp
                          with_reducible rfl
                        rotate_left
                        · simp only [Act.put, List.setIfInBounds_toArray, List.set_cons_zero, List.set_cons_succ, i64_w, i32_w]
                          rfl
                        refine pure_ (i := 2) (N := some 35) (v := ?_) (a' := ?_) #[true, true, true, false, false, false, false, false, false, false, false, false, false, false, false, false, false, false, false, false, false] rfl rfl (any_of HT_.out (by kernel_rfl)) (fun _ _ _ h => h) (Or.inl ⟨by rfl, ?_⟩) ?_ ?_
                        rotate_left
                        · intro w'
                          go_simp
                          with_reducible rfl
                        rotate_left
                        · simp only [Act.put, List.setIfInBounds_toArray, List.set_cons_zero, List.set_cons_succ, i64_w, i32_w]
                          rfl
                        refine pure_ (i := 3) (N := some 36) (v := ?_) (a' := ?_) #[true, true, true, true, false, false, false, false, false, false, false, false, false, false, false, false, false, false, false, false, false] rfl rfl (any_of HT_.out (by kernel_rfl)) (fun _ _ _ h => h) (Or.inl ⟨by rfl, ?_⟩) ?_ ?_
                        rotate_left
                        · intro w'
                          go_simp
                          with_reducible rfl
                        rotate_left
                        · simp only [Act.put, List.setIfInBounds_toArray, List.set_cons_zero, List.set_cons_succ, i64_w, i32_w]
                          rfl
                        refine pure_ (i := 5) (N := some 38) (v := ?_) (a' := ?_) #[true, true, true, true, false, true, false, false, false, false, false, false, false, false, false, false, false, false, false, false, false] rfl rfl (any_of HT_.out (by kernel_rfl)) (fun _ _ _ h => h) (Or.inl ⟨by rfl, ?_⟩) ?_ ?_
                        rotate_left
                        · intro w'
                          go_simp
                          with_reducible rfl
                        rotate_left
                        · simp only [Act.put, List.setIfInBounds_toArray, List.set_cons_zero, List.set_cons_succ, i64_w, i32_w]
                          rfl
                        refine one_ (i := 4) (N := some 37) #[true, true, true, true, true, true, false, false, false, false, false, false, false, false, false, false, false, false, false, false, false] rfl rfl (one_of HT_.out (by kernel_rfl)) (by decide) (fun K hK => ?_)
                        refine goes_ Try.func18 (by kernel_rfl) rfl #[.pointer (some _), .int .i64 x9_1] (by rfl) rfl rfl (by (try simp only [List.map_toArray, List.map_cons, List.map_nil]); first | done | rfl | (simp only [List.length_drop, List.length_take]; rfl)) ?_
                        with_reducible refine (spec_l04Lift.calls ((rd_T51 l0 x10_2).f0) ((rd_T51 l0 x10_2).f1) ((rd_T51 l0 x10_2).f2) A282_3 c282_3 ((rd_T51 l0 x10_2).f3) x9_1 t283 _ ?side1 ?side2 ?side3 ?side4 ?side5 ?side6 A11.out).mono ?_
                        (case side1 => repeat (first | exact (Kd.C_below HR282_3.out HB.out) | (with_reducible refine Kd.C_alloc ?_ _) | (with_reducible refine Kd.C_drewN ?_ _) | (with_reducible refine Kd.C_drew ?_)))
                        (case side2 => exact HC282_3.out)
                        (case side3 => (repeat (first | exact hx282_0 | exact pw_cell_below HB.out hx282_0 | (with_reducible refine xq_drewN ?_ _) | (with_reducible refine xq_drew ?_) | (with_reducible refine xq_alloc ?_ _))))
                        (case side4 => (repeat (first | exact hx282_1 | exact pw_cell_below HB.out hx282_1 | (with_reducible refine xq_drewN ?_ _) | (with_reducible refine xq_drew ?_) | (with_reducible refine xq_alloc ?_ _))))
                        (case side5 => (repeat (first | exact hx282_2 | exact pw_cell_below HB.out hx282_2 | (with_reducible refine xq_drewN ?_ _) | (with_reducible refine xq_drew ?_) | (with_reducible refine xq_alloc ?_ _))))
                        (case side6 => (repeat (first | exact hx282_3 | exact pw_cell_below HB.out hx282_3 | (with_reducible refine xq_drewN ?_ _) | (with_reducible refine xq_drew ?_) | (with_reducible refine xq_alloc ?_ _))))
                        rintro e w' ⟨rfl, ⟨nd, rfl⟩⟩
                        refine ⟨_, rfl, ?_⟩
                        refine hK.out _ _ ⟨(by first | exact ((HB.out.cell (World.block_lt_of_cell? w _ hw282_0)).trans hw282_0) | exact ((HB.out.cell (World.block_lt_of_cell? w _ hv282_0)).trans hv282_0) | exact hx282_0), (by first | exact ((HB.out.cell (World.block_lt_of_cell? w _ hw282_1)).trans hw282_1) | exact ((HB.out.cell (World.block_lt_of_cell? w _ hv282_1)).trans hv282_1) | exact hx282_1), (by first | exact ((HB.out.cell (World.block_lt_of_cell? w _ hw282_2)).trans hw282_2) | exact ((HB.out.cell (World.block_lt_of_cell? w _ hv282_2)).trans hv282_2) | exact hx282_2), (by first | exact ((HB.out.cell (World.block_lt_of_cell? w _ hw282_3)).trans hw282_3) | exact ((HB.out.cell (World.block_lt_of_cell? w _ hv282_3)).trans hv282_3) | exact hx282_3), (by first | exact ((HB.out.cell (World.block_lt_of_cell? w _ hw284_0)).trans hw284_0) | exact ((HB.out.cell (World.block_lt_of_cell? w _ hv284_0)).trans hv284_0) | exact hx284_0), (by first | exact ((HB.out.cell (World.block_lt_of_cell? w _ hw284_1)).trans hw284_1) | exact ((HB.out.cell (World.block_lt_of_cell? w _ hv284_1)).trans hv284_1) | exact hx284_1), (by first | exact ((HB.out.cell (World.block_lt_of_cell? w _ hw284_2)).trans hw284_2) | exact ((HB.out.cell (World.block_lt_of_cell? w _ hv284_2)).trans hv284_2) | exact hx284_2), (by first | exact ((HB.out.cell (World.block_lt_of_cell? w _ hw284_3)).trans hw284_3) | exact ((HB.out.cell (World.block_lt_of_cell? w _ hv284_3)).trans hv284_3) | exact hx284_3)⟩ (fun hHeld => ?_)
                        clear hK K
                        refine norm_ (a' := ?_) ?_ ?_
                        rotate_left
                        · show Act.put _ (some 37) _ = _
                          simp only [Act.put, List.setIfInBounds_toArray, List.set_cons_zero, List.set_cons_succ, i64_w, i32_w]
                          rfl
                        refine pure_ (i := 6) (N := some 39) (v := ?_) (a' := ?_) #[true, true, true, true, true, true, true, false, false, false, false, false, false, false, false, false, false, false, false, false, false] rfl rfl (any_of HT_.out (by kernel_rfl)) (fun _ _ _ h => h) (Or.inl ⟨by rfl, ?_⟩) ?_ ?_
                        rotate_left
                        · intro w'
                          go_simp
                          with_reducible rfl
                        rotate_left
                        · simp only [Act.put, List.setIfInBounds_toArray, List.set_cons_zero, List.set_cons_succ, i64_w, i32_w]
                          rfl
                        refine pure_ (i := 7) (N := some 40) (v := ?_) (a' := ?_) #[true, true, true, true, true, true, true, true, false, false, false, false, false, false, false, false, false, false, false, false, false] rfl rfl (any_of HT_.out (by kernel_rfl)) (fun _ _ _ h => h) (Or.inl ⟨by rfl, ?_⟩) ?_ ?_
                        rotate_left
                        · intro w'
                          go_simp
                          with_reducible rfl
                        rotate_left
                        · simp only [Act.put, List.setIfInBounds_toArray, List.set_cons_zero, List.set_cons_succ, i64_w, i32_w]
                          rfl
                        refine pure_ (i := 8) (N := some 41) (v := ?_) (a' := ?_) #[true, true, true, true, true, true, true, true, true, false, false, false, false, false, false, false, false, false, false, false, false] rfl rfl (any_of HT_.out (by kernel_rfl)) (fun _ _ _ h => h) (Or.inl ⟨by rfl, ?_⟩) ?_ ?_
                        rotate_left
                        · intro w'
                          go_simp
                          with_reducible rfl
                        rotate_left
                        · simp only [Act.put, List.setIfInBounds_toArray, List.set_cons_zero, List.set_cons_succ, i64_w, i32_w]
                          rfl
                        refine pure_ (i := 9) (N := some 42) (v := ?_) (a' := ?_) #[true, true, true, true, true, true, true, true, true, true, false, false, false, false, false, false, false, false, false, false, false] rfl rfl (any_of HT_.out (by kernel_rfl)) (fun _ _ _ h => h) (Or.inl ⟨by rfl, ?_⟩) ?_ ?_
                        rotate_left
                        · intro w'
                          go_simp
                          with_reducible rfl
                        rotate_left
                        · simp only [Act.put, List.setIfInBounds_toArray, List.set_cons_zero, List.set_cons_succ, i64_w, i32_w]
                          rfl
                        refine pure_ (i := 10) (N := some 43) (v := ?_) (a' := ?_) #[true, true, true, true, true, true, true, true, true, true, true, false, false, false, false, false, false, false, false, false, false] rfl rfl (any_of HT_.out (by kernel_rfl)) (fun _ _ _ h => h) (Or.inl ⟨by rfl, ?_⟩) ?_ ?_
                        rotate_left
                        · intro w'
                          go_simp
                          with_reducible rfl
                        rotate_left
                        · simp only [Act.put, List.setIfInBounds_toArray, List.set_cons_zero, List.set_cons_succ, i64_w, i32_w]
                          rfl
                        refine pure_ (i := 11) (N := some 44) (v := ?_) (a' := ?_) #[true, true, true, true, true, true, true, true, true, true, true, true, false, false, false, false, false, false, false, false, false] rfl rfl (any_of HT_.out (by kernel_rfl)) (fun _ _ _ h => h) (Or.inl ⟨by rfl, ?_⟩) ?_ ?_
                        rotate_left
                        · intro w'
                          go_simp
                          with_reducible rfl
                        rotate_left
                        · simp only [Act.put, List.setIfInBounds_toArray, List.set_cons_zero, List.set_cons_succ, i64_w, i32_w]
                          rfl
                        refine pure_ (i := 12) (N := some 45) (v := ?_) (a' := ?_) #[true, true, true, true, true, true, true, true, true, true, true, true, true, false, false, false, false, false, false, false, false] rfl rfl (any_of HT_.out (by kernel_rfl)) (fun _ _ _ h => h) (Or.inl ⟨by rfl, ?_⟩) ?_ ?_
                        rotate_left
                        · intro w'
                          go_simp
                          with_reducible rfl
                        rotate_left
                        · simp only [Act.put, List.setIfInBounds_toArray, List.set_cons_zero, List.set_cons_succ, i64_w, i32_w]
                          rfl
                        refine pure_ (i := 13) (N := some 46) (v := ?_) (a' := ?_) #[true, true, true, true, true, true, true, true, true, true, true, true, true, true, false, false, false, false, false, false, false] rfl rfl (any_of HT_.out (by kernel_rfl)) (fun _ _ _ h => h) (Or.inl ⟨by rfl, ?_⟩) ?_ ?_
                        rotate_left
                        · intro w'
                          go_simp
                          with_reducible rfl
                        rotate_left
                        · simp only [Act.put, List.setIfInBounds_toArray, List.set_cons_zero, List.set_cons_succ, i64_w, i32_w]
                          rfl
                        refine pure_ (i := 14) (N := some 47) (v := ?_) (a' := ?_) #[true, true, true, true, true, true, true, true, true, true, true, true, true, true, true, false, false, false, false, false, false] rfl rfl (any_of HT_.out (by kernel_rfl)) (fun _ _ _ h => h) (Or.inl ⟨by rfl, ?_⟩) ?_ ?_
                        rotate_left
                        · intro w'
                          go_simp
                          with_reducible rfl
                        rotate_left
                        · simp only [Act.put, List.setIfInBounds_toArray, List.set_cons_zero, List.set_cons_succ, i64_w, i32_w]
                          rfl
                        refine pure_ (i := 15) (N := some 48) (v := ?_) (a' := ?_) #[true, true, true, true, true, true, true, true, true, true, true, true, true, true, true, true, false, false, false, false, false] rfl rfl (any_of HT_.out (by kernel_rfl)) (fun _ _ _ h => h) (Or.inl ⟨by rfl, ?_⟩) ?_ ?_
                        rotate_left
                        · intro w'
                          go_simp
                          with_reducible rfl
                        rotate_left
                        · simp only [Act.put, List.setIfInBounds_toArray, List.set_cons_zero, List.set_cons_succ, i64_w, i32_w]
                          rfl
                        refine pure_ (i := 16) (N := some 49) (v := ?_) (a' := ?_) #[true, true, true, true, true, true, true, true, true, true, true, true, true, true, true, true, true, false, false, false, false] rfl rfl (any_of HT_.out (by kernel_rfl)) (fun _ _ _ h => h) (Or.inl ⟨by rfl, ?_⟩) ?_ ?_
                        rotate_left
                        · intro w'
                          go_simp
                          with_reducible rfl
                        rotate_left
                        · simp only [Act.put, List.setIfInBounds_toArray, List.set_cons_zero, List.set_cons_succ, i64_w, i32_w]
                          rfl
                        refine pure_ (i := 18) (N := some 51) (v := ?_) (a' := ?_) #[true, true, true, true, true, true, true, true, true, true, true, true, true, true, true, true, true, false, true, false, false] rfl rfl (any_of HT_.out (by kernel_rfl)) (fun _ _ _ h => h) (Or.inl ⟨by rfl, ?_⟩) ?_ ?_
                        rotate_left
                        · intro w'
                          go_simp
                          with_reducible rfl
                        rotate_left
                        · simp only [Act.put, List.setIfInBounds_toArray, List.set_cons_zero, List.set_cons_succ, i64_w, i32_w]
                          rfl
                        refine one_ (i := 17) (N := some 50) #[true, true, true, true, true, true, true, true, true, true, true, true, true, true, true, true, true, true, true, false, false] rfl rfl (one_of HT_.out (by kernel_rfl)) (by decide) (fun K hK => ?_)
                        refine goes_ Try.func18 (by kernel_rfl) rfl #[.pointer (some _), .int .i64 (Int.tmod (wrap64 ((wrap64 (x9_1 + t274)) - 1)) t274)] (by rfl) rfl rfl (by (try simp only [List.map_toArray, List.map_cons, List.map_nil]); first | done | rfl | (simp only [List.length_drop, List.length_take]; rfl)) ?_
                        with_reducible refine (spec_l04Lift.calls ((rd_T51 l0 x10_2).f0) ((rd_T51 l0 x10_2).f1) ((rd_T51 l0 x10_2).f2) A282_3 c282_3 ((rd_T51 l0 x10_2).f3) (Int.tmod (wrap64 ((wrap64 (x9_1 + t274)) - 1)) t274) t285 _ ?side1 ?side2 ?side3 ?side4 ?side5 ?side6 A14.out).mono ?_
                        (case side1 => repeat (first | exact (Kd.C_below HR284_3.out (by repeat (first | (with_reducible first | exact HB.out | apply below_alloc | apply pw_below_drewN | apply below_drew1) | exact HB.out))) | (with_reducible refine Kd.C_alloc ?_ _) | (with_reducible refine Kd.C_drewN ?_ _) | (with_reducible refine Kd.C_drew ?_)))
                        (case side2 => exact HC284_3.out)
                        (case side3 => (repeat (first | exact hx284_0 | exact pw_cell_below HB.out hx284_0 | (with_reducible refine xq_drewN ?_ _) | (with_reducible refine xq_drew ?_) | (with_reducible refine xq_alloc ?_ _))))
                        (case side4 => (repeat (first | exact hx284_1 | exact pw_cell_below HB.out hx284_1 | (with_reducible refine xq_drewN ?_ _) | (with_reducible refine xq_drew ?_) | (with_reducible refine xq_alloc ?_ _))))
                        (case side5 => (repeat (first | exact hx284_2 | exact pw_cell_below HB.out hx284_2 | (with_reducible refine xq_drewN ?_ _) | (with_reducible refine xq_drew ?_) | (with_reducible refine xq_alloc ?_ _))))
                        (case side6 => (repeat (first | exact hx284_3 | exact pw_cell_below HB.out hx284_3 | (with_reducible refine xq_drewN ?_ _) | (with_reducible refine xq_drew ?_) | (with_reducible refine xq_alloc ?_ _))))
                        rintro e w' ⟨rfl, ⟨nd, rfl⟩⟩
                        refine ⟨_, rfl, ?_⟩
                        refine hK.out _ _ ⟨(by first | exact ((HB.out.cell (World.block_lt_of_cell? w _ hw282_0)).trans hw282_0) | exact ((HB.out.cell (World.block_lt_of_cell? w _ hv282_0)).trans hv282_0) | exact hx282_0), (by first | exact ((HB.out.cell (World.block_lt_of_cell? w _ hw282_1)).trans hw282_1) | exact ((HB.out.cell (World.block_lt_of_cell? w _ hv282_1)).trans hv282_1) | exact hx282_1), (by first | exact ((HB.out.cell (World.block_lt_of_cell? w _ hw282_2)).trans hw282_2) | exact ((HB.out.cell (World.block_lt_of_cell? w _ hv282_2)).trans hv282_2) | exact hx282_2), (by first | exact ((HB.out.cell (World.block_lt_of_cell? w _ hw282_3)).trans hw282_3) | exact ((HB.out.cell (World.block_lt_of_cell? w _ hv282_3)).trans hv282_3) | exact hx282_3), (by first | exact ((HB.out.cell (World.block_lt_of_cell? w _ hw284_0)).trans hw284_0) | exact ((HB.out.cell (World.block_lt_of_cell? w _ hv284_0)).trans hv284_0) | exact hx284_0), (by first | exact ((HB.out.cell (World.block_lt_of_cell? w _ hw284_1)).trans hw284_1) | exact ((HB.out.cell (World.block_lt_of_cell? w _ hv284_1)).trans hv284_1) | exact hx284_1), (by first | exact ((HB.out.cell (World.block_lt_of_cell? w _ hw284_2)).trans hw284_2) | exact ((HB.out.cell (World.block_lt_of_cell? w _ hv284_2)).trans hv284_2) | exact hx284_2), (by first | exact ((HB.out.cell (World.block_lt_of_cell? w _ hw284_3)).trans hw284_3) | exact ((HB.out.cell (World.block_lt_of_cell? w _ hv284_3)).trans hv284_3) | exact hx284_3)⟩ (fun hHeld => ?_)
                        clear hK K
                        refine norm_ (a' := ?_) ?_ ?_
                        rotate_left
                        · show Act.put _ (some 50) _ = _
                          simp only [Act.put, List.setIfInBounds_toArray, List.set_cons_zero, List.set_cons_succ, i64_w, i32_w]
                          rfl
                        refine pure_ (i := 19) (N := some 52) (v := ?_) (a' := ?_) #[true, true, true, true, true, true, true, true, true, true, true, true, true, true, true, true, true, true, true, true, false] rfl rfl (any_of HT_.out (by kernel_rfl)) (fun _ _ _ h => h) (Or.inl ⟨by rfl, ?_⟩) ?_ ?_
                        rotate_left
                        · intro w'
                          go_simp
                          with_reducible rfl
                        rotate_left
                        · simp only [Act.put, List.setIfInBounds_toArray, List.set_cons_zero, List.set_cons_succ, i64_w, i32_w]
                          rfl
                        refine pure_ (i := 20) (N := some 53) (v := ?_) (a' := ?_) #[true, true, true, true, true, true, true, true, true, true, true, true, true, true, true, true, true, true, true, true, true] rfl rfl (any_of HT_.out (by kernel_rfl)) (fun _ _ _ h => h) (Or.inl ⟨by rfl, ?_⟩) ?_ ?_
                        rotate_left
                        · intro w'
                          go_simp
                          with_reducible rfl
                        rotate_left
                        · simp only [Act.put, List.setIfInBounds_toArray, List.set_cons_zero, List.set_cons_succ, i64_w, i32_w]
                          rfl
                        refine done_ (done_of HT_.out (by kernel_rfl)) ?_
                        try go_wp2
                        go_roundg k2
                        case measure => have := HK1.out; have := HK2.out; omega
                        case rel => exact ⟨(x8_2), (wrap64 (x10_2 + 1)), (by first | rfl | (simp; done) | (simp [*]; done)), H', ⟨by have := HK1.out; have := HK2.out; omega⟩, ⟨by (with_reducible repeat (first | apply Kd.R_alloc | apply Kd.R_drewN | apply Kd.R_drew)); exact HO_8.out⟩, ⟨by repeat (first | (with_reducible first | exact HB.out | apply below_alloc | apply pw_below_drewN | apply below_drew1) | exact HB.out)⟩⟩
                  · rw [if_neg c12] at H
                    have c12b0 : decide (a1 ≤ t283) = false := decide_eq_false c12
                    clear c12
                    have H' := Aside0.mk H
                    clear H
                    try go_wp2
                    have n0_ := Aside0.mk (Kd.R_drew HO_8.out)
                    have n1_ := Aside0.mk (below_drew1 HB.out)
                    clear HO_8
                    clear HB
                    have HO_8 := n0_
                    have HB := n1_
                    clear n0_ n1_
                    have p282 : 0 ≤ (x10_2 : Int) := of_decide_eq_true (by first | (with_reducible assumption) | assumption)
                    have q282 : x10_2 < (l0.length : Int) := of_decide_eq_true (by first | (with_reducible assumption) | assumption)
                    obtain ⟨ad282, A282_3, c282_3, e282, hx282_0, hx282_1, hx282_2, hx282_3, hl282_3, hi282_3⟩ := at_T51 HR0.out x10_2 p282 q282
                    have hw282_3 := hx282_3
                    have hw282_2 := hx282_2
                    have hw282_1 := hx282_1
                    have hw282_0 := hx282_0
                    cases e282
                    replace hx282_0 := (HB.out.cell (World.block_lt_of_cell? w _ hx282_0)).trans hx282_0
                    replace hx282_1 := (HB.out.cell (World.block_lt_of_cell? w _ hx282_1)).trans hx282_1
                    replace hx282_2 := (HB.out.cell (World.block_lt_of_cell? w _ hx282_2)).trans hx282_2
                    replace hx282_3 := (HB.out.cell (World.block_lt_of_cell? w _ hx282_3)).trans hx282_3
                    have HR282_3 := Aside0.mk hi282_3
                    have HC282_3 := Aside0.mk hl282_3
                    clear hi282_3 hl282_3
                    replace p282 := eq_true p282
                    replace q282 := eq_true q282
                    refine start_ (n := 21) (S := fun w' => w'.cell? (ad282.add ((x10_2).toNat * 4)) = some (.int .i16 ((rd_T51 l0 x10_2).f0)) ∧ w'.cell? ⟨(ad282.add ((x10_2).toNat * 4)).block, (ad282.add ((x10_2).toNat * 4)).off + 1, none⟩ = some (.int .i16 ((rd_T51 l0 x10_2).f1)) ∧ w'.cell? ⟨(ad282.add ((x10_2).toNat * 4)).block, (ad282.add ((x10_2).toNat * 4)).off + 2, none⟩ = some (.int .i16 ((rd_T51 l0 x10_2).f2)) ∧ w'.cell? ⟨(ad282.add ((x10_2).toNat * 4)).block, (ad282.add ((x10_2).toNat * 4)).off + 3, none⟩ = some (.slice A282_3 ((rd_T51 l0 x10_2).f3).length c282_3)) (ds := []) #[false, false, false, false, false, false, false, false, false, false, false, false, false, false, false, false, false, false, false, false, false] (by kernel_rfl) rfl rfl ⟨(by first | exact ((HB.out.cell (World.block_lt_of_cell? w _ hw282_0)).trans hw282_0) | exact ((HB.out.cell (World.block_lt_of_cell? w _ hv282_0)).trans hv282_0) | exact hx282_0), (by first | exact ((HB.out.cell (World.block_lt_of_cell? w _ hw282_1)).trans hw282_1) | exact ((HB.out.cell (World.block_lt_of_cell? w _ hv282_1)).trans hv282_1) | exact hx282_1), (by first | exact ((HB.out.cell (World.block_lt_of_cell? w _ hw282_2)).trans hw282_2) | exact ((HB.out.cell (World.block_lt_of_cell? w _ hv282_2)).trans hv282_2) | exact hx282_2), (by first | exact ((HB.out.cell (World.block_lt_of_cell? w _ hw282_3)).trans hw282_3) | exact ((HB.out.cell (World.block_lt_of_cell? w _ hv282_3)).trans hv282_3) | exact hx282_3)⟩ (fun hHeld => ?_); refine with_tabW spec_EventsOf.tab11 spec_EventsOf.bits11 (fun HT_ HW_ => ?_)
                    generalize wr.drew = w20 at HO_8 HB HR282_3 hx282_0 hx282_1 hx282_2 hx282_3 hHeld ⊢
                    refine pure_ (i := 0) (N := some 33) (v := ?_) (a' := ?_) #[true, false, false, false, false, false, false, false, false, false, false, false, false, false, false, false, false, false, false, false, false] rfl rfl (any_of HT_.out (by kernel_rfl)) (fun _ _ _ h => h) (Or.inl ⟨by rfl, ?_⟩) ?_ ?_
                    rotate_left
                    · intro w'
                      go_simp
                      with_reducible rfl
                    rotate_left
                    · simp only [Act.put, List.setIfInBounds_toArray, List.set_cons_zero, List.set_cons_succ, i64_w, i32_w]
                      rfl
                    refine pure_ (i := 1) (N := some 34) (v := ?_) (a' := ?_) #[true, true, false, false, false, false, false, false, false, false, false, false, false, false, false, false, false, false, false, false, false] rfl rfl (any_of HT_.out (by kernel_rfl)) (fun _ _ _ h => h) (Or.inl ⟨by rfl, ?_⟩) ?_ ?_
                    rotate_left
                    · intro w'
                      go_simp
                      with_reducible rfl
                    rotate_left
                    · simp only [Act.put, List.setIfInBounds_toArray, List.set_cons_zero, List.set_cons_succ, i64_w, i32_w]
                      rfl
                    refine pure_ (i := 2) (N := some 35) (v := ?_) (a' := ?_) #[true, true, true, false, false, false, false, false, false, false, false, false, false, false, false, false, false, false, false, false, false] rfl rfl (any_of HT_.out (by kernel_rfl)) (fun _ _ _ h => h) (Or.inl ⟨by rfl, ?_⟩) ?_ ?_
                    rotate_left
                    · intro w'
                      go_simp
                      with_reducible rfl
                    rotate_left
                    · simp only [Act.put, List.setIfInBounds_toArray, List.set_cons_zero, List.set_cons_succ, i64_w, i32_w]
                      rfl
                    refine pure_ (i := 3) (N := some 36) (v := ?_) (a' := ?_) #[true, true, true, true, false, false, false, false, false, false, false, false, false, false, false, false, false, false, false, false, false] rfl rfl (any_of HT_.out (by kernel_rfl)) (fun _ _ _ h => h) (Or.inl ⟨by rfl, ?_⟩) ?_ ?_
                    rotate_left
                    · intro w'
                      go_simp
                      with_reducible rfl
                    rotate_left
                    · simp only [Act.put, List.setIfInBounds_toArray, List.set_cons_zero, List.set_cons_succ, i64_w, i32_w]
                      rfl
                    refine pure_ (i := 5) (N := some 38) (v := ?_) (a' := ?_) #[true, true, true, true, false, true, false, false, false, false, false, false, false, false, false, false, false, false, false, false, false] rfl rfl (any_of HT_.out (by kernel_rfl)) (fun _ _ _ h => h) (Or.inl ⟨by rfl, ?_⟩) ?_ ?_
                    rotate_left
                    · intro w'
                      go_simp
                      with_reducible rfl
                    rotate_left
                    · simp only [Act.put, List.setIfInBounds_toArray, List.set_cons_zero, List.set_cons_succ, i64_w, i32_w]
                      rfl
                    refine one_ (i := 4) (N := some 37) #[true, true, true, true, true, true, false, false, false, false, false, false, false, false, false, false, false, false, false, false, false] rfl rfl (one_of HT_.out (by kernel_rfl)) (by decide) (fun K hK => ?_)
                    refine goes_ Try.func18 (by kernel_rfl) rfl #[.pointer (some _), .int .i64 x9_1] (by rfl) rfl rfl (by (try simp only [List.map_toArray, List.map_cons, List.map_nil]); first | done | rfl | (simp only [List.length_drop, List.length_take]; rfl)) ?_
                    with_reducible refine (spec_l04Lift.calls ((rd_T51 l0 x10_2).f0) ((rd_T51 l0 x10_2).f1) ((rd_T51 l0 x10_2).f2) A282_3 c282_3 ((rd_T51 l0 x10_2).f3) x9_1 t283 _ ?side1 ?side2 ?side3 ?side4 ?side5 ?side6 A11.out).mono ?_
                    (case side1 => repeat (first | exact (Kd.C_below HR282_3.out HB.out) | (with_reducible refine Kd.C_alloc ?_ _) | (with_reducible refine Kd.C_drewN ?_ _) | (with_reducible refine Kd.C_drew ?_)))
                    (case side2 => exact HC282_3.out)
                    (case side3 => (repeat (first | exact hx282_0 | exact pw_cell_below HB.out hx282_0 | (with_reducible refine xq_drewN ?_ _) | (with_reducible refine xq_drew ?_) | (with_reducible refine xq_alloc ?_ _))))
                    (case side4 => (repeat (first | exact hx282_1 | exact pw_cell_below HB.out hx282_1 | (with_reducible refine xq_drewN ?_ _) | (with_reducible refine xq_drew ?_) | (with_reducible refine xq_alloc ?_ _))))
                    (case side5 => (repeat (first | exact hx282_2 | exact pw_cell_below HB.out hx282_2 | (with_reducible refine xq_drewN ?_ _) | (with_reducible refine xq_drew ?_) | (with_reducible refine xq_alloc ?_ _))))
                    (case side6 => (repeat (first | exact hx282_3 | exact pw_cell_below HB.out hx282_3 | (with_reducible refine xq_drewN ?_ _) | (with_reducible refine xq_drew ?_) | (with_reducible refine xq_alloc ?_ _))))
                    rintro e w' ⟨rfl, ⟨nd, rfl⟩⟩
                    refine ⟨_, rfl, ?_⟩
                    refine hK.out _ _ ⟨(by first | exact ((HB.out.cell (World.block_lt_of_cell? w _ hw282_0)).trans hw282_0) | exact ((HB.out.cell (World.block_lt_of_cell? w _ hv282_0)).trans hv282_0) | exact hx282_0), (by first | exact ((HB.out.cell (World.block_lt_of_cell? w _ hw282_1)).trans hw282_1) | exact ((HB.out.cell (World.block_lt_of_cell? w _ hv282_1)).trans hv282_1) | exact hx282_1), (by first | exact ((HB.out.cell (World.block_lt_of_cell? w _ hw282_2)).trans hw282_2) | exact ((HB.out.cell (World.block_lt_of_cell? w _ hv282_2)).trans hv282_2) | exact hx282_2), (by first | exact ((HB.out.cell (World.block_lt_of_cell? w _ hw282_3)).trans hw282_3) | exact ((HB.out.cell (World.block_lt_of_cell? w _ hv282_3)).trans hv282_3) | exact hx282_3)⟩ (fun hHeld => ?_)
                    clear hK K
                    refine norm_ (a' := ?_) ?_ ?_
                    rotate_left
                    · show Act.put _ (some 37) _ = _
                      simp only [Act.put, List.setIfInBounds_toArray, List.set_cons_zero, List.set_cons_succ, i64_w, i32_w]
                      rfl
                    refine pure_ (i := 6) (N := some 39) (v := ?_) (a' := ?_) #[true, true, true, true, true, true, true, false, false, false, false, false, false, false, false, false, false, false, false, false, false] rfl rfl (any_of HT_.out (by kernel_rfl)) (fun _ _ _ h => h) (Or.inl ⟨by rfl, ?_⟩) ?_ ?_
                    rotate_left
                    · intro w'
                      go_simp
                      with_reducible rfl
                    rotate_left
                    · simp only [Act.put, List.setIfInBounds_toArray, List.set_cons_zero, List.set_cons_succ, i64_w, i32_w]
                      rfl
                    refine pure_ (i := 7) (N := some 40) (v := ?_) (a' := ?_) #[true, true, true, true, true, true, true, true, false, false, false, false, false, false, false, false, false, false, false, false, false] rfl rfl (any_of HT_.out (by kernel_rfl)) (fun _ _ _ h => h) (Or.inl ⟨by rfl, ?_⟩) ?_ ?_
                    rotate_left
                    · intro w'
                      go_simp
                      with_reducible rfl
                    rotate_left
                    · simp only [Act.put, List.setIfInBounds_toArray, List.set_cons_zero, List.set_cons_succ, i64_w, i32_w]
                      rfl
                    refine pure_ (i := 8) (N := some 41) (v := undef) (a' := ?_) #[true, true, true, true, true, true, true, true, true, false, false, false, false, false, false, false, false, false, false, false, false] rfl rfl (any_of HT_.out (by kernel_rfl)) (fun _ _ _ h => h) (Or.inr ⟨by rfl, rfl⟩) ?_ ?_
                    rotate_left
                    · simp only [Act.put, List.setIfInBounds_toArray, List.set_cons_zero, List.set_cons_succ, i64_w, i32_w]
                      rfl
                    refine pure_ (i := 9) (N := some 42) (v := undef) (a' := ?_) #[true, true, true, true, true, true, true, true, true, true, false, false, false, false, false, false, false, false, false, false, false] rfl rfl (any_of HT_.out (by kernel_rfl)) (fun _ _ _ h => h) (Or.inr ⟨by rfl, rfl⟩) ?_ ?_
                    rotate_left
                    · simp only [Act.put, List.setIfInBounds_toArray, List.set_cons_zero, List.set_cons_succ, i64_w, i32_w]
                      rfl
                    refine pure_ (i := 10) (N := some 43) (v := undef) (a' := ?_) #[true, true, true, true, true, true, true, true, true, true, true, false, false, false, false, false, false, false, false, false, false] rfl rfl (any_of HT_.out (by kernel_rfl)) (fun _ _ _ h => h) (Or.inr ⟨by rfl, rfl⟩) ?_ ?_
                    rotate_left
                    · simp only [Act.put, List.setIfInBounds_toArray, List.set_cons_zero, List.set_cons_succ, i64_w, i32_w]
                      rfl
                    refine pure_ (i := 11) (N := some 44) (v := undef) (a' := ?_) #[true, true, true, true, true, true, true, true, true, true, true, true, false, false, false, false, false, false, false, false, false] rfl rfl (any_of HT_.out (by kernel_rfl)) (fun _ _ _ h => h) (Or.inr ⟨by rfl, rfl⟩) ?_ ?_
                    rotate_left
                    · simp only [Act.put, List.setIfInBounds_toArray, List.set_cons_zero, List.set_cons_succ, i64_w, i32_w]
                      rfl
                    refine pure_ (i := 12) (N := some 45) (v := undef) (a' := ?_) #[true, true, true, true, true, true, true, true, true, true, true, true, true, false, false, false, false, false, false, false, false] rfl rfl (any_of HT_.out (by kernel_rfl)) (fun _ _ _ h => h) (Or.inr ⟨by rfl, rfl⟩) ?_ ?_
                    rotate_left
                    · simp only [Act.put, List.setIfInBounds_toArray, List.set_cons_zero, List.set_cons_succ, i64_w, i32_w]
                      rfl
                    refine pure_ (i := 13) (N := some 46) (v := undef) (a' := ?_) #[true, true, true, true, true, true, true, true, true, true, true, true, true, true, false, false, false, false, false, false, false] rfl rfl (any_of HT_.out (by kernel_rfl)) (fun _ _ _ h => h) (Or.inr ⟨by rfl, rfl⟩) ?_ ?_
                    rotate_left
                    · simp only [Act.put, List.setIfInBounds_toArray, List.set_cons_zero, List.set_cons_succ, i64_w, i32_w]
                      rfl
                    refine pure_ (i := 14) (N := some 47) (v := undef) (a' := ?_) #[true, true, true, true, true, true, true, true, true, true, true, true, true, true, true, false, false, false, false, false, false] rfl rfl (any_of HT_.out (by kernel_rfl)) (fun _ _ _ h => h) (Or.inr ⟨by rfl, rfl⟩) ?_ ?_
                    rotate_left
                    · simp only [Act.put, List.setIfInBounds_toArray, List.set_cons_zero, List.set_cons_succ, i64_w, i32_w]
                      rfl
                    refine pure_ (i := 15) (N := some 48) (v := undef) (a' := ?_) #[true, true, true, true, true, true, true, true, true, true, true, true, true, true, true, true, false, false, false, false, false] rfl rfl (any_of HT_.out (by kernel_rfl)) (fun _ _ _ h => h) (Or.inr ⟨by rfl, rfl⟩) ?_ ?_
                    rotate_left
                    · simp only [Act.put, List.setIfInBounds_toArray, List.set_cons_zero, List.set_cons_succ, i64_w, i32_w]
                      rfl
                    refine pure_ (i := 16) (N := some 49) (v := undef) (a' := ?_) #[true, true, true, true, true, true, true, true, true, true, true, true, true, true, true, true, true, false, false, false, false] rfl rfl (any_of HT_.out (by kernel_rfl)) (fun _ _ _ h => h) (Or.inr ⟨by rfl, rfl⟩) ?_ ?_
                    rotate_left
                    · simp only [Act.put, List.setIfInBounds_toArray, List.set_cons_zero, List.set_cons_succ, i64_w, i32_w]
                      rfl
                    refine pure_ (i := 17) (N := some 50) (v := undef) (a' := ?_) #[true, true, true, true, true, true, true, true, true, true, true, true, true, true, true, true, true, true, false, false, false] rfl rfl (any_of HT_.out (by kernel_rfl)) (fun _ _ _ h => h) (Or.inr ⟨by rfl, rfl⟩) ?_ ?_
                    rotate_left
                    · simp only [Act.put, List.setIfInBounds_toArray, List.set_cons_zero, List.set_cons_succ, i64_w, i32_w]
                      rfl
                    refine pure_ (i := 18) (N := some 51) (v := undef) (a' := ?_) #[true, true, true, true, true, true, true, true, true, true, true, true, true, true, true, true, true, true, true, false, false] rfl rfl (any_of HT_.out (by kernel_rfl)) (fun _ _ _ h => h) (Or.inr ⟨by rfl, rfl⟩) ?_ ?_
                    rotate_left
                    · simp only [Act.put, List.setIfInBounds_toArray, List.set_cons_zero, List.set_cons_succ, i64_w, i32_w]
                      rfl
                    refine pure_ (i := 19) (N := some 52) (v := undef) (a' := ?_) #[true, true, true, true, true, true, true, true, true, true, true, true, true, true, true, true, true, true, true, true, false] rfl rfl (any_of HT_.out (by kernel_rfl)) (fun _ _ _ h => h) (Or.inr ⟨by rfl, rfl⟩) ?_ ?_
                    rotate_left
                    · simp only [Act.put, List.setIfInBounds_toArray, List.set_cons_zero, List.set_cons_succ, i64_w, i32_w]
                      rfl
                    refine pure_ (i := 20) (N := some 53) (v := ?_) (a' := ?_) #[true, true, true, true, true, true, true, true, true, true, true, true, true, true, true, true, true, true, true, true, true] rfl rfl (any_of HT_.out (by kernel_rfl)) (fun _ _ _ h => h) (Or.inl ⟨by rfl, ?_⟩) ?_ ?_
                    rotate_left
                    · intro w'
                      go_simp
                      with_reducible rfl
                    rotate_left
                    · simp only [Act.put, List.setIfInBounds_toArray, List.set_cons_zero, List.set_cons_succ, i64_w, i32_w]
                      rfl
                    refine done_ (done_of HT_.out (by kernel_rfl)) ?_
                    try go_wp2
                    go_roundg k2
                    case measure => have := HK1.out; have := HK2.out; omega
                    case rel => exact ⟨(x8_2), (wrap64 (x10_2 + 1)), (by first | rfl | (simp; done) | (simp [*]; done)), H', ⟨by have := HK1.out; have := HK2.out; omega⟩, ⟨by (with_reducible repeat (first | apply Kd.R_alloc | apply Kd.R_drewN | apply Kd.R_drew)); exact HO_8.out⟩, ⟨by repeat (first | (with_reducible first | exact HB.out | apply below_alloc | apply pw_below_drewN | apply below_drew1) | exact HB.out)⟩⟩
                · rw [if_neg c10] at H
                  exact absurd H (by simp)
              · rw [if_neg c9] at H
                have c9b0 : decide (x10_2 < (l0.length : Int)) = false := decide_eq_false c9
                clear c9
                have H' := Aside0.mk H
                clear H
                go_wp2
                go_roundg k2
                case measure => have := HK1.out; have := HK2.out; omega
                case rel => exact ⟨(x8_2), (wrap64 (x9_1 + 1)), (by first | rfl | (simp; done) | (simp [*]; done)), H', ⟨by have := HK1.out; have := HK2.out; omega⟩, ⟨by (with_reducible repeat (first | apply Kd.R_alloc | apply Kd.R_drewN | apply Kd.R_drew)); exact HO_8.out⟩, ⟨by repeat (first | (with_reducible first | exact HB.out | apply below_alloc | apply pw_below_drewN | apply below_drew1) | exact HB.out)⟩⟩
        · rw [if_neg c8] at H
          have c8b0 : decide (x9_1 < t274) = false := decide_eq_false c8
          clear c8
          simp only [Option.some.injEq, Prod.mk.injEq] at H
          obtain ⟨rfl, rfl⟩ := H
          go_wp2
          go_ret2
          exact ⟨_, by first | rfl | (simp [errW_none, errW_some] <;> rfl) | (simp [*, errW_none, errW_some] <;> rfl), by (with_reducible repeat (first | apply Kd.R_alloc | apply Kd.R_drewN | apply Kd.R_drew)); exact HO_8.out, by repeat (first | (with_reducible first | exact HB.out | apply below_alloc | apply pw_below_drewN | apply below_drew1) | exact HB.out)⟩
  · rw [if_neg c4] at H
    have c4b0 : (t275 == 0) = false := beq_eq_false_iff_ne.mpr c4
    have c4b1 : (t275 != 0) = true := bne_iff_ne.mpr c4
    obtain ⟨y276, hy276⟩ : ∃ y_ : List (S34), y_ = (([] : List (S34))) := ⟨_, rfl⟩
    replace H : (some (y276, t275)) = some (r1, r2) := by first | (rw [hy276]; with_reducible exact H) | (have H2_ := (Option.bind_some _ _).symm.trans H; rw [hy276]; with_reducible exact H2_) | (have H2_ := (Option.bind_some _ _).symm.trans H; with_reducible exact H2_) | with_reducible exact H | (rw [hy276]; exact H) | exact H
    have Ny276 := Aside0.mk hy276
    clear hy276
    simp only [Option.some.injEq, Prod.mk.injEq] at H
    obtain ⟨rfl, rfl⟩ := H
    go_enter Try.func8, Try.ntmps8
    go_wp2_with (first | ((with_reducible refine gate_callee (f := 17) rfl ?_); refine goesL_ (some 14) rfl rfl Try.func17 (by kernel_rfl) rfl #[.slice A0 l0.length c0, .int .i64 0, .int .i64 0, .int .i64 a1] rfl (by (try simp only [List.map_toArray, List.map_cons, List.map_nil]); first | done | rfl | (simp only [List.length_drop, List.length_take]; rfl)) ?_; (with_reducible refine (spec_l04Asked.calls k _ _ l0 0 0 a1 t274 t275 _ ?side1 ?side2 A3.out).mono ?_); (case side1 => repeat (first | exact HR0.out | (with_reducible refine Kd.C_alloc ?_ _) | (with_reducible refine Kd.C_drewN ?_ _) | (with_reducible refine Kd.C_drew ?_))); (case side2 => exact HC0.out); rintro e w21 ⟨rfl, hb⟩; refine ⟨_, rfl, ?_⟩; have n0_ := Aside0.mk (below_step (by repeat (first | (with_reducible first | exact HB.out | apply below_alloc | apply pw_below_drewN | apply below_drew1) | exact HB.out)) hb); clear HB; have HB := n0_; clear n0_; (try clear hb); (try clear hb2); (try clear hk); (try clear hi)) | ((with_reducible refine gate_dst (N := 19) rfl ?_); refine Kd.R_lit k34 _ 34 ?hg (N := 19) ?hd (xs := ([] : List (S34))) (inner := []) (ok := fun _ => True) (okp := fun _ => True) ?hr ?hp (fun _ hk => hk) trivial (Below.refl _ _) (Nat.le_refl _) (by simp) ?_; (case hd => rfl); (case hg => rfl); (case hr => first | (go_simp; done) | (go_simp; rfl)); (case hp => exact (Reps.none _ _)); intro v277 w22 ho23 hb hg_ hnew_; clear hg_ hnew_; (first | rw [← Ny276.out] at ho23 | (simp only [Int.reduceToNat] at ho23; rw [← Ny276.out] at ho23)); have n0_ := Aside0.mk (Kd.R_lower ho23 (below_size (by repeat (first | (with_reducible first | exact HB.out | apply below_alloc | apply pw_below_drewN | apply below_drew1) | exact HB.out)))); have n1_ := Aside0.mk (below_step (by repeat (first | (with_reducible first | exact HB.out | apply below_alloc | apply pw_below_drewN | apply below_drew1) | exact HB.out)) hb); clear HB; have HO278 := n0_; have HB := n1_; clear n0_ n1_; clear hb ho23))
    go_ret2
    exact ⟨_, by first | rfl | (simp [errW_none, errW_some] <;> rfl) | (simp [*, errW_none, errW_some] <;> rfl), by (with_reducible repeat (first | apply Kd.R_alloc | apply Kd.R_drewN | apply Kd.R_drew)); exact HO278.out, by repeat (first | (with_reducible first | exact HB.out | apply below_alloc | apply pw_below_drewN | apply below_drew1) | exact HB.out)⟩

end Go.Proofs.Ytlabebaahlbkhaa.XFnEvents
