/- Printed by this repository's own program (wip/tools/xprint.py) for the law FnExactDrawStrokes: Lean functions that say what the Go functions compute, and the proofs that the machine comes to just that; no condition beyond those in each statement. -/
import Derived.Deep.WholeRow
import Derived.Laws.CopyOwn
import Derived.Test.YtkgeppbjfkhjcaaXFnExactDrawStrokesx0
import Derived.Test.YtkgeppbjfkhjcaaXFnExactDrawStrokesx1
import Derived.Test.YtkgeppbjfkhjcaaXFnExactDrawStrokesx3
namespace Go.Proofs.Ytkgeppbjfkhjcaa.XFnExactDrawStrokes
open Go.RowKit Go.Proofs.YtkgeppbjfkhjcaaW.PrintWords Go.Proofs.YtkgeppbjfkhjcaaW.PrintLast Go.Proofs.YtkgeppbjfkhjcaaW.PrintMore
attribute [local go_sem] max2_int min2_int max_two min_two max_three min_three max_four min_four   -- for this text's walks alone
set_option linter.unusedVariables false
set_option linter.unusedSimpArgs false

/-! ### spec_DrawStrokes: function 7 -/
mutual
def spec_DrawStrokes.l0 : Nat → List (List (S60)) → Int → List Int → Option (List Int × Int)
  | 0, _, _, _ => none
  | k + 1, x0, x6, x135000 => if x6 < (x0.length : Int) then (spec_DrawStrokes.l1 k x0 x6 0 x135000) else (some (x135000, 0))
def spec_DrawStrokes.l1 : Nat → List (List (S60)) → Int → Int → List Int → Option (List Int × Int)
  | 0, _, _, _, _ => none
  | k + 1, x0, x6, x7, x135000 => if 0 ≤ x6 then (if x6 < (x0.length : Int) then (if x7 < ((rd_L4 x0 x6).length : Int) then (if 0 ≤ x7 then ((spec_l07Ink.f k x135000 ((rd_T60 (rd_L4 x0 x6) x7).f0) ((rd_T60 (rd_L4 x0 x6) x7).f1) ((rd_T60 (rd_L4 x0 x6) x7).f0) ((rd_T60 (rd_L4 x0 x6) x7).f1)).bind fun t140 => (if x7 > 0 then (if 0 ≤ (wrap64 (x7 - 1)) then (if (wrap64 (x7 - 1)) < ((rd_L4 x0 x6).length : Int) then ((spec_l07Ink.f k t140 ((rd_T60 (rd_L4 x0 x6) (wrap64 (x7 - 1))).f0) ((rd_T60 (rd_L4 x0 x6) (wrap64 (x7 - 1))).f1) ((rd_T60 (rd_L4 x0 x6) x7).f0) ((rd_T60 (rd_L4 x0 x6) x7).f1)).bind fun t145 => (spec_DrawStrokes.l1 k x0 x6 (wrap64 (x7 + 1)) t145)) else (none)) else (none)) else (spec_DrawStrokes.l1 k x0 x6 (wrap64 (x7 + 1)) t140))) else (none)) else (spec_DrawStrokes.l0 k x0 (wrap64 (x6 + 1)) x135000)) else (none)) else (none)
end
def spec_DrawStrokes.f (k : Nat) (l0 : List (List (S60))) : Option (List Int × Int) := (spec_l07Strokes.f k l0).bind fun t132 => (if t132 = 0 then ((plate_new.f).bind fun t133 => (spec_DrawStrokes.l0 k l0 0 t133)) else (some (pl0_, t132)))
theorem spec_DrawStrokes.mono_l : ∀ k, (∀ y0 y1 y2, LeO (spec_DrawStrokes.l0 k y0 y1 y2) (spec_DrawStrokes.l0 (k + 1) y0 y1 y2)) ∧ (∀ y0 y1 y2 y3, LeO (spec_DrawStrokes.l1 k y0 y1 y2 y3) (spec_DrawStrokes.l1 (k + 1) y0 y1 y2 y3))
  | 0 => ⟨fun _ _ _ r h => by simp [spec_DrawStrokes.l0] at h, fun _ _ _ _ r h => by simp [spec_DrawStrokes.l1] at h⟩
  | k + 1 => by
    obtain ⟨ih0, ih1⟩ := spec_DrawStrokes.mono_l k
    refine ⟨?_, ?_⟩
    · intro y0 y1 y2
      unfold spec_DrawStrokes.l0
      repeat' first
      | (with_reducible exact ih0 _ _ _)
      | (with_reducible exact ih1 _ _ _ _)
      | (with_reducible exact spec_l07Ink.mono _ _ _ _ _ _)
      | (with_reducible exact spec_l07Strokes.mono _ _)
      | (with_reducible exact LeO.refl _)
      | (with_reducible exact LeO.none _)
      | (with_reducible refine LeO.ite ?_ ?_)
      | (with_reducible refine LeO.bind ?_ (fun _ => ?_))
      | exact ih0 _ _ _
      | exact ih1 _ _ _ _
      | exact spec_l07Ink.mono _ _ _ _ _ _
      | exact spec_l07Strokes.mono _ _
      | exact LeO.none _
      | refine LeO.ite ?_ ?_
      | refine LeO.bind ?_ (fun _ => ?_)
    · intro y0 y1 y2 y3
      unfold spec_DrawStrokes.l1
      repeat' first
      | (with_reducible exact ih0 _ _ _)
      | (with_reducible exact ih1 _ _ _ _)
      | (with_reducible exact spec_l07Ink.mono _ _ _ _ _ _)
      | (with_reducible exact spec_l07Strokes.mono _ _)
      | (with_reducible exact LeO.refl _)
      | (with_reducible exact LeO.none _)
      | (with_reducible refine LeO.ite ?_ ?_)
      | (with_reducible refine LeO.bind ?_ (fun _ => ?_))
      | exact ih0 _ _ _
      | exact ih1 _ _ _ _
      | exact spec_l07Ink.mono _ _ _ _ _ _
      | exact spec_l07Strokes.mono _ _
      | exact LeO.none _
      | refine LeO.ite ?_ ?_
      | refine LeO.bind ?_ (fun _ => ?_)
theorem spec_DrawStrokes.mono : ∀ a0 k, LeO (spec_DrawStrokes.f k a0) (spec_DrawStrokes.f (k + 1) a0) := by
  intro a0 k
  obtain ⟨ih0, ih1⟩ := spec_DrawStrokes.mono_l k
  unfold spec_DrawStrokes.f
  repeat' first
      | (with_reducible exact ih0 _ _ _)
      | (with_reducible exact ih1 _ _ _ _)
      | (with_reducible exact spec_l07Ink.mono _ _ _ _ _ _)
      | (with_reducible exact spec_l07Strokes.mono _ _)
      | (with_reducible exact LeO.refl _)
      | (with_reducible exact LeO.none _)
      | (with_reducible refine LeO.ite ?_ ?_)
      | (with_reducible refine LeO.bind ?_ (fun _ => ?_))
      | exact ih0 _ _ _
      | exact ih1 _ _ _ _
      | exact spec_l07Ink.mono _ _ _ _ _ _
      | exact spec_l07Strokes.mono _ _
      | exact LeO.none _
      | refine LeO.ite ?_ ?_
      | refine LeO.bind ?_ (fun _ => ?_)
def spec_DrawStrokes.T11 : Bool × List (List Nat × List Nat) := (true, [([], []), ([], []), ([0, 1], [0, 1]), ([2], [2]), ([], []), ([3, 4], [3, 4]), ([5], [5]), ([], []), ([], []), ([7, 8], [7, 8]), ([9], [9]), ([], []), ([10, 11], [10, 11]), ([12], [12]), ([6, 13], [6, 13])])
def spec_DrawStrokes.B11 : List Nat := [0, 0, 3, 7, 0, 31, 63, 0, 0, 384, 896, 0, 3968, 8064, 16383]
theorem spec_DrawStrokes.tab11 : rtab .any (opsOf Try.f7 11) = spec_DrawStrokes.T11 := by kernel_rfl
theorem spec_DrawStrokes.bits11 : waitsOk spec_DrawStrokes.T11.2 spec_DrawStrokes.B11 = true := by kernel_rfl
def spec_DrawStrokes.T13 : Bool × List (List Nat × List Nat) := (true, [([], []), ([], []), ([0, 1], [0, 1]), ([2], [2]), ([], []), ([4], [4]), ([3, 5], [3, 5]), ([6], [6]), ([], []), ([], []), ([8, 9], [8, 9]), ([10], [10]), ([], []), ([11, 12], [11, 12]), ([13], [13]), ([7, 14], [7, 14])])
def spec_DrawStrokes.B13 : List Nat := [0, 0, 3, 7, 0, 16, 63, 127, 0, 0, 768, 1792, 0, 7936, 16128, 32767]
theorem spec_DrawStrokes.tab13 : rtab .any (opsOf Try.f7 13) = spec_DrawStrokes.T13 := by kernel_rfl
theorem spec_DrawStrokes.bits13 : waitsOk spec_DrawStrokes.T13.2 spec_DrawStrokes.B13 = true := by kernel_rfl
set_option maxHeartbeats 8000000 in
set_option maxRecDepth 100000 in
theorem spec_DrawStrokes.calls (k : Nat) (A0 : Option Addr) (c0 : Nat) (l0 : List (List (S60))) (r1 : List Int) (r2 : Int) (w : World) (hr0 : Kd.C (Kd.slice 60 k60) w A0 l0.length l0) (hc0 : l0.length ≤ c0) (h : spec_DrawStrokes.f k l0 = some (r1, r2)) :
    Calls Try.prog 7 #[.slice A0 l0.length c0] w fun e w' => e = .returned (.tuple #[.agg (plA r1), .int .i64 r2]) ∧ Below w.heap.size w w' := by
  have hu26 := Try.underlying26
  have hu60 := Try.underlying60
  have HR0 := Aside0.mk hr0
  have HC0 := Aside0.mk hc0
  clear hr0 hc0
  have HB := Aside0.mk (Below.refl w.heap.size w)
  have H : ((spec_l07Strokes.f k l0).bind fun t132 => (if t132 = 0 then ((plate_new.f).bind fun t133 => (spec_DrawStrokes.l0 k l0 0 t133)) else (some (pl0_, t132)))) = some (r1, r2) := h
  clear h
  replace H := Option.bind_eq_some_iff.mp H
  obtain ⟨t132, A20, H⟩ := H
  replace H : (if t132 = 0 then ((plate_new.f).bind fun t133 => (spec_DrawStrokes.l0 k l0 0 t133)) else (some (pl0_, t132))) = some (r1, r2) := H
  have A2 := Aside0.mk A20
  clear A20
  by_cases c3 : t132 = 0
  · rw [if_pos c3] at H
    have c3b0 : (t132 == 0) = true := beq_iff_eq.mpr c3
    have c3b1 : (t132 != 0) = false := bne_eq_false_iff_eq.mpr c3
    clear c3
    replace H := Option.bind_eq_some_iff.mp H
    obtain ⟨t133, A40, H⟩ := H
    replace H : (spec_DrawStrokes.l0 k l0 0 t133) = some (r1, r2) := H
    have A4 := Aside0.mk A40
    clear A40
    have H' := Aside0.mk H
    clear H
    have E4 := Aside0.mk (show t133 = pl0_ from (Option.some.inj (show some pl0_ = some t133 from A4.out)).symm)
    go_enter Try.func7, Try.ntmps7
    go_wp2_with (first | ((with_reducible refine gate_dst (N := 2) rfl ?_); refine box_event ?hg (N := 2) ?hd (cs := plA pl0_) (t := 26) ?hr ?_; (case hd => rfl); (case hg => rfl); (case hr => first | (go_simp; done) | (go_simp; rfl)); intro gb2 hg w3 hbox hb; have n0_ := Aside0.mk (below_step HB.out hb); have BK2 := Aside0.mk hbox; have GE2 := Aside0.mk (show w.heap.size ≤ gb2 from by rw [hg]; exact below_size HB.out); clear HB; have HB := n0_; clear n0_ hb hbox hg) | ((with_reducible refine gate_callee (f := 25) rfl ?_); refine goesL_ (some 9) rfl rfl Try.func25 (by kernel_rfl) rfl #[.slice A0 l0.length c0] rfl (by (try simp only [List.map_toArray, List.map_cons, List.map_nil]); first | done | rfl | (simp only [List.length_drop, List.length_take]; rfl)) ?_; (with_reducible refine (spec_l07Strokes.calls k _ _ l0 t132 _ ?side1 ?side2 A2.out).mono ?_); (case side1 => repeat (first | exact (Kd.C_below HR0.out HB.out) | (with_reducible refine Kd.C_alloc ?_ _) | (with_reducible refine Kd.C_drewN ?_ _) | (with_reducible refine Kd.C_drew ?_))); (case side2 => exact HC0.out); rintro e w5 ⟨rfl, hb⟩; refine ⟨_, rfl, ?_⟩; have nb_ := Aside0.mk (blk_below BK2.out hb); clear BK2; have BK2 := nb_; clear nb_; have n0_ := Aside0.mk (below_step (by repeat (first | (with_reducible first | exact HB.out | apply below_alloc | apply pw_below_drewN | apply below_drew1) | exact HB.out)) hb); clear HB; have HB := n0_; clear n0_; (try clear hb); (try clear hb2); (try clear hk); (try clear hi)) | ((with_reducible refine gate_dst (N := 5) rfl ?_); refine box_event ?hg (N := 5) ?hd (cs := plA pl0_) (t := 26) ?hr ?_; (case hd => rfl); (case hg => rfl); (case hr => first | (go_simp; done) | (go_simp; rfl)); intro g134 hg wA hbox hb; have n0_ := Aside0.mk (below_step HB.out hb); have nb_ := Aside0.mk (blk_below BK2.out hb); have BK5 := Aside0.mk hbox; have GE5 := Aside0.mk (show w.heap.size ≤ g134 from by rw [hg]; exact below_size HB.out); have NE5 := Aside0.mk (show gb2 ≠ g134 from by rw [hg]; exact Nat.ne_of_lt (blk_lt BK2.out)); clear HB BK2; have HB := n0_; have BK2 := nb_; clear n0_ nb_ hb hbox hg) | ((with_reducible refine gate_store (t := 26) (p := 5) rfl ?_); refine pl_store (p := 5) (v := ?vv5) (g := g134) (x := pl0_) ?hg ?ho ?hn ?hp ?hv BK5.out (plA_size _) (by kernel_rfl) ?_; (case ho => rfl); (case hg => rfl); (case hn => rfl); (case hp => rfl); (case hv => rfl); intro w6 hw; have HI134 := Aside0.mk (show IsP2 gb2 w w6 g134 t133 from by rw [hw, E4.out]; exact ⟨⟨blk_putP BK5.out _, GE5.out⟩, blk_farP BK2.out NE5.out _, NE5.out, GE2.out⟩); have n0_ := Aside0.mk (show Below w.heap.size w w6 from by rw [hw]; exact below_setP HB.out GE5.out); clear HB; have HB := n0_; clear n0_ hw BK5 BK2))
    go_loopg [6] k (fun kq v6 w' => ∃ (x6_1 : Int) (x135000_1 : List Int), v6 = .int .i64 x6_1 ∧ Aside0 (spec_DrawStrokes.l0 kq l0 x6_1 x135000_1 = some (r1, r2)) ∧ Aside0 (kq ≤ k) ∧ Aside0 (IsP2 gb2 w w' g134 x135000_1) ∧ Aside0 (Below w.heap.size w w'))
    case atStart => exact ⟨(0), (t133), (by first | rfl | (simp; done) | (simp [*]; done)), H', ⟨Nat.le_refl _⟩, ⟨by repeat (first | (with_reducible first | exact HI134.out | apply IsP2.alloc | apply IsP2.drewN | apply IsP2.drew) | exact HI134.out | (simp only [Int.add_zero]))⟩, ⟨by repeat (first | (with_reducible first | exact HB.out | apply below_alloc | apply pw_below_drewN | apply below_drew1 | refine below_set ?_ (IsP2.ge HI134.out)) | exact HB.out)⟩⟩
    case round =>
      clear H'
      try clear c1
      try clear c2
      try clear p2
      try clear c3
      try clear c3b0
      try clear c3b1
      obtain ⟨x6_1, x135000_1, rfl, HA, HK1, HI134, HB⟩ := hrel
      cases gk with
      | zero => exact absurd HA.out (by simp [spec_DrawStrokes.l0])
      | succ k1 =>
        have H := HA.out
        clear HA
        simp only [spec_DrawStrokes.l0] at H
        by_cases c7 : x6_1 < (l0.length : Int)
        · rw [if_pos c7] at H
          have c7b0 : decide (x6_1 < (l0.length : Int)) = true := decide_eq_true c7
          clear c7
          have H' := Aside0.mk H
          clear H
          go_wp2
          go_loopg [7] k1 (fun kq v7 w' => ∃ (x7_2 : Int) (x135000_2 : List Int), v7 = .int .i64 x7_2 ∧ Aside0 (spec_DrawStrokes.l1 kq l0 x6_1 x7_2 x135000_2 = some (r1, r2)) ∧ Aside0 (kq ≤ k1) ∧ Aside0 (IsP2 gb2 w w' g134 x135000_2) ∧ Aside0 (Below w.heap.size w w'))
          case atStart => exact ⟨(0), (x135000_1), (by first | rfl | (simp; done) | (simp [*]; done)), H', ⟨Nat.le_refl _⟩, ⟨by repeat (first | (with_reducible first | exact HI134.out | apply IsP2.alloc | apply IsP2.drewN | apply IsP2.drew) | exact HI134.out | (simp only [Int.add_zero]))⟩, ⟨by repeat (first | (with_reducible first | exact HB.out | apply below_alloc | apply pw_below_drewN | apply below_drew1 | refine below_set ?_ (IsP2.ge HI134.out)) | exact HB.out)⟩⟩
          case round =>
            clear H'
            try clear c1
            try clear c2
            try clear p2
            try clear c3
            try clear c3b0
            try clear c3b1
            try clear c7
            try clear c7b0
            try clear p2
            obtain ⟨x7_2, x135000_2, rfl, HA, HK2, HI134, HB⟩ := hrel
            cases gk with
            | zero => exact absurd HA.out (by simp [spec_DrawStrokes.l1])
            | succ k2 =>
              have H := HA.out
              clear HA
              simp only [spec_DrawStrokes.l1] at H
              by_cases c8 : 0 ≤ x6_1
              · rw [if_pos c8] at H
                have c8b0 : decide (0 ≤ x6_1) = true := decide_eq_true c8
                clear c8
                by_cases c9 : x6_1 < (l0.length : Int)
                · rw [if_pos c9] at H
                  have c9b0 : decide (x6_1 < (l0.length : Int)) = true := decide_eq_true c9
                  clear c9
                  by_cases c10 : x7_2 < ((rd_L4 l0 x6_1).length : Int)
                  · rw [if_pos c10] at H
                    have c10b0 : decide (x7_2 < ((rd_L4 l0 x6_1).length : Int)) = true := decide_eq_true c10
                    clear c10
                    by_cases c11 : 0 ≤ x7_2
                    · rw [if_pos c11] at H
                      have c11b0 : decide (0 ≤ x7_2) = true := decide_eq_true c11
                      clear c11
                      replace H := Option.bind_eq_some_iff.mp H
                      obtain ⟨t140, A120, H⟩ := H
                      replace H : (if x7_2 > 0 then (if 0 ≤ (wrap64 (x7_2 - 1)) then (if (wrap64 (x7_2 - 1)) < ((rd_L4 l0 x6_1).length : Int) then ((spec_l07Ink.f k2 t140 ((rd_T60 (rd_L4 l0 x6_1) (wrap64 (x7_2 - 1))).f0) ((rd_T60 (rd_L4 l0 x6_1) (wrap64 (x7_2 - 1))).f1) ((rd_T60 (rd_L4 l0 x6_1) x7_2).f0) ((rd_T60 (rd_L4 l0 x6_1) x7_2).f1)).bind fun t145 => (spec_DrawStrokes.l1 k2 l0 x6_1 (wrap64 (x7_2 + 1)) t145)) else (none)) else (none)) else (spec_DrawStrokes.l1 k2 l0 x6_1 (wrap64 (x7_2 + 1)) t140)) = some (r1, r2) := H
                      have A12 := Aside0.mk A120
                      clear A120
                      by_cases c13 : x7_2 > 0
                      · rw [if_pos c13] at H
                        have c13b0 : decide (0 < x7_2) = true := decide_eq_true c13
                        clear c13
                        obtain ⟨ji14, hji14⟩ : ∃ j_ : Int, (wrap64 (x7_2 - 1)) = j_ := ⟨_, rfl⟩
                        replace H : (if 0 ≤ (ji14) then (if (ji14) < ((rd_L4 l0 x6_1).length : Int) then ((spec_l07Ink.f k2 t140 ((rd_T60 (rd_L4 l0 x6_1) (ji14)).f0) ((rd_T60 (rd_L4 l0 x6_1) (ji14)).f1) ((rd_T60 (rd_L4 l0 x6_1) x7_2).f0) ((rd_T60 (rd_L4 l0 x6_1) x7_2).f1)).bind fun t145 => (spec_DrawStrokes.l1 k2 l0 x6_1 (wrap64 (x7_2 + 1)) t145)) else (none)) else (none)) = some (r1, r2) := by first | (rw [hji14] at H; exact H) | (simp only [hji14] at H ⊢; exact H)
                        (try rw [hji14] at A12)
                        have hji14w : (IntKind.i64.wrap (x7_2 - 1)) = ji14 := (i64_w _).trans hji14
                        by_cases c15 : 0 ≤ (ji14)
                        · rw [if_pos c15] at H
                          have c15b0 : decide (0 ≤ (ji14)) = true := decide_eq_true c15
                          clear c15
                          by_cases c16 : (ji14) < ((rd_L4 l0 x6_1).length : Int)
                          · rw [if_pos c16] at H
                            have c16b0 : decide ((ji14) < ((rd_L4 l0 x6_1).length : Int)) = true := decide_eq_true c16
                            clear c16
                            replace H := Option.bind_eq_some_iff.mp H
                            obtain ⟨t145, A170, H⟩ := H
                            replace H : (spec_DrawStrokes.l1 k2 l0 x6_1 (wrap64 (x7_2 + 1)) t145) = some (r1, r2) := H
                            have A17 := Aside0.mk A170
                            clear A170
                            have H' := Aside0.mk H
                            clear H
                            have p135 : 0 ≤ (x6_1 : Int) := of_decide_eq_true (by first | (with_reducible assumption) | assumption)
                            have q135 : x6_1 < (l0.length : Int) := of_decide_eq_true (by first | (with_reducible assumption) | assumption)
                            obtain ⟨ad135, A135_0, c135_0, e135, hx135_0, hl135_0, hi135_0⟩ := at_L4 HR0.out x6_1 p135 q135
                            cases e135
                            replace hx135_0 := (HB.out.cell (World.block_lt_of_cell? w _ hx135_0)).trans hx135_0
                            have HR135_0 := Aside0.mk hi135_0
                            have HC135_0 := Aside0.mk hl135_0
                            clear hi135_0 hl135_0
                            replace p135 := eq_true p135
                            replace q135 := eq_true q135
                            try go_wp2
                            have n0_ := Aside0.mk (IsP2.drew HI134.out)
                            have n1_ := Aside0.mk (below_drew1 HB.out)
                            clear HI134
                            clear HB
                            have HI134 := n0_
                            have HB := n1_
                            clear n0_ n1_
                            have p136 : 0 ≤ (x6_1 : Int) := of_decide_eq_true (by first | (with_reducible assumption) | assumption)
                            have q136 : x6_1 < (l0.length : Int) := of_decide_eq_true (by first | (with_reducible assumption) | assumption)
                            obtain ⟨ad136, A136_0, c136_0, e136, hx136_0, hl136_0, hi136_0⟩ := at_L4 HR0.out x6_1 p136 q136
                            have hw136_0 := hx136_0
                            obtain rfl : ad135 = ad136 := (by injection e136)
                            replace hx136_0 := (HB.out.cell (World.block_lt_of_cell? w _ hx136_0)).trans hx136_0
                            have HR136_0 := Aside0.mk hi136_0
                            have HC136_0 := Aside0.mk hl136_0
                            clear hi136_0 hl136_0
                            replace p136 := eq_true p136
                            replace q136 := eq_true q136
                            have p137 : 0 ≤ (x7_2 : Int) := of_decide_eq_true (by first | (with_reducible assumption) | assumption)
                            have q137 : x7_2 < ((rd_L4 l0 x6_1).length : Int) := of_decide_eq_true (by first | (with_reducible assumption) | assumption)
                            obtain ⟨ad137, e137, hx137_0, hx137_1⟩ := at_T60 HR136_0.out x7_2 p137 q137
                            have hw137_1 := hx137_1
                            have hw137_0 := hx137_0
                            cases e137
                            replace hx137_0 := (HB.out.cell (World.block_lt_of_cell? w _ hx137_0)).trans hx137_0
                            replace hx137_1 := (HB.out.cell (World.block_lt_of_cell? w _ hx137_1)).trans hx137_1
                            replace p137 := eq_true p137
                            replace q137 := eq_true q137
                            have p138 : 0 ≤ (x6_1 : Int) := of_decide_eq_true (by first | (with_reducible assumption) | assumption)
                            have q138 : x6_1 < (l0.length : Int) := of_decide_eq_true (by first | (with_reducible assumption) | assumption)
                            obtain ⟨ad138, A138_0, c138_0, e138, hx138_0, hl138_0, hi138_0⟩ := at_L4 HR0.out x6_1 p138 q138
                            have hw138_0 := hx138_0
                            obtain rfl : ad135 = ad138 := (by injection e138)
                            replace hx138_0 := (HB.out.cell (World.block_lt_of_cell? w _ hx138_0)).trans hx138_0
                            have HR138_0 := Aside0.mk hi138_0
                            have HC138_0 := Aside0.mk hl138_0
                            clear hi138_0 hl138_0
                            replace p138 := eq_true p138
                            replace q138 := eq_true q138
                            have ea_ := Option.some.inj (hx136_0.symm.trans hx138_0)
                            injection ea_ with ea_ en_ ec_
                            subst ea_
                            subst ec_
                            clear en_
                            have p139 : 0 ≤ (x7_2 : Int) := of_decide_eq_true (by first | (with_reducible assumption) | assumption)
                            have q139 : x7_2 < ((rd_L4 l0 x6_1).length : Int) := of_decide_eq_true (by first | (with_reducible assumption) | assumption)
                            obtain ⟨ad139, e139, hx139_0, hx139_1⟩ := at_T60 HR138_0.out x7_2 p139 q139
                            have hw139_1 := hx139_1
                            have hw139_0 := hx139_0
                            cases e139
                            replace hx139_0 := (HB.out.cell (World.block_lt_of_cell? w _ hx139_0)).trans hx139_0
                            replace hx139_1 := (HB.out.cell (World.block_lt_of_cell? w _ hx139_1)).trans hx139_1
                            replace p139 := eq_true p139
                            replace q139 := eq_true q139
                            refine start_ (n := 15) (S := fun w' => w'.cell? (ad135.add (x6_1).toNat) = some (.slice (some ad137) (rd_L4 l0 x6_1).length c136_0) ∧ w'.cell? (ad137.add ((x7_2).toNat * 2)) = some (.int .i16 ((rd_T60 (rd_L4 l0 x6_1) x7_2).f0)) ∧ w'.cell? ⟨(ad137.add ((x7_2).toNat * 2)).block, (ad137.add ((x7_2).toNat * 2)).off + 1, none⟩ = some (.int .i16 ((rd_T60 (rd_L4 l0 x6_1) x7_2).f1)) ∧ w'.cell? (ad135.add (x6_1).toNat) = some (.slice (some ad137) (rd_L4 l0 x6_1).length c136_0) ∧ w'.cell? (ad137.add ((x7_2).toNat * 2)) = some (.int .i16 ((rd_T60 (rd_L4 l0 x6_1) x7_2).f0)) ∧ w'.cell? ⟨(ad137.add ((x7_2).toNat * 2)).block, (ad137.add ((x7_2).toNat * 2)).off + 1, none⟩ = some (.int .i16 ((rd_T60 (rd_L4 l0 x6_1) x7_2).f1))) (ds := []) #[false, false, false, false, false, false, false, false, false, false, false, false, false, false, false] (by kernel_rfl) rfl rfl ⟨(by first | exact ((HB.out.cell (World.block_lt_of_cell? w _ hw136_0)).trans hw136_0) | exact ((HB.out.cell (World.block_lt_of_cell? w _ hv136_0)).trans hv136_0) | exact hx136_0), (by first | exact ((HB.out.cell (World.block_lt_of_cell? w _ hw137_0)).trans hw137_0) | exact ((HB.out.cell (World.block_lt_of_cell? w _ hv137_0)).trans hv137_0) | exact hx137_0), (by first | exact ((HB.out.cell (World.block_lt_of_cell? w _ hw137_1)).trans hw137_1) | exact ((HB.out.cell (World.block_lt_of_cell? w _ hv137_1)).trans hv137_1) | exact hx137_1), (by first | exact ((HB.out.cell (World.block_lt_of_cell? w _ hw138_0)).trans hw138_0) | exact ((HB.out.cell (World.block_lt_of_cell? w _ hv138_0)).trans hv138_0) | exact hx138_0), (by first | exact ((HB.out.cell (World.block_lt_of_cell? w _ hw139_0)).trans hw139_0) | exact ((HB.out.cell (World.block_lt_of_cell? w _ hv139_0)).trans hv139_0) | exact hx139_0), (by first | exact ((HB.out.cell (World.block_lt_of_cell? w _ hw139_1)).trans hw139_1) | exact ((HB.out.cell (World.block_lt_of_cell? w _ hv139_1)).trans hv139_1) | exact hx139_1)⟩ (fun hHeld => ?_); refine with_tabW spec_DrawStrokes.tab11 spec_DrawStrokes.bits11 (fun HT_ HW_ => ?_)
                            generalize wr.drew = w18 at HI134 HB HR136_0 HR138_0 hx136_0 hx137_0 hx137_1 hx138_0 hx139_0 hx139_1 hHeld ⊢
                            refine pure_ (i := 0) (N := some 30) (v := ?_) (a' := ?_) #[true, false, false, false, false, false, false, false, false, false, false, false, false, false, false] rfl rfl (any_of HT_.out (by kernel_rfl)) (fun _ _ _ h => h) (Or.inl ⟨by rfl, ?_⟩) ?_ ?_
                            rotate_left
                            · intro w'
                              go_simp
                              with_reducible rfl
                            rotate_left
                            · simp only [Act.put, List.setIfInBounds_toArray, List.set_cons_zero, List.set_cons_succ, i64_w, i32_w]
                              rfl
                            refine pure_ (i := 1) (N := some 31) (v := ?_) (a' := ?_) #[true, true, false, false, false, false, false, false, false, false, false, false, false, false, false] rfl rfl (any_of HT_.out (by kernel_rfl)) (fun _ _ _ h => h) (Or.inl ⟨by rfl, ?_⟩) ?_ ?_
                            rotate_left
                            · intro w'
                              go_simp
                              with_reducible rfl
                            rotate_left
                            · simp only [Act.put, List.setIfInBounds_toArray, List.set_cons_zero, List.set_cons_succ, i64_w, i32_w]
                              rfl
                            refine pure_ (i := 2) (N := some 32) (v := ?_) (a' := ?_) #[true, true, true, false, false, false, false, false, false, false, false, false, false, false, false] rfl rfl (any_of HT_.out (by kernel_rfl)) (fun _ _ _ h => h) (Or.inl ⟨by rfl, ?_⟩) ?_ ?_
                            rotate_left
                            · intro w'
                              go_simp
                              with_reducible rfl
                            rotate_left
                            · simp only [Act.put, List.setIfInBounds_toArray, List.set_cons_zero, List.set_cons_succ, i64_w, i32_w]
                              rfl
                            refine pure_ (i := 4) (N := some 34) (v := ?_) (a' := ?_) #[true, true, true, false, true, false, false, false, false, false, false, false, false, false, false] rfl rfl (any_of HT_.out (by kernel_rfl)) (fun _ _ _ h => h) (Or.inl ⟨by rfl, ?_⟩) ?_ ?_
                            rotate_left
                            · intro w'
                              go_simp
                              with_reducible rfl
                            rotate_left
                            · simp only [Act.put, List.setIfInBounds_toArray, List.set_cons_zero, List.set_cons_succ, i64_w, i32_w]
                              rfl
                            refine pure_ (i := 7) (N := some 37) (v := ?_) (a' := ?_) #[true, true, true, false, true, false, false, true, false, false, false, false, false, false, false] rfl rfl (any_of HT_.out (by kernel_rfl)) (fun _ _ _ h => h) (Or.inl ⟨by rfl, ?_⟩) ?_ ?_
                            rotate_left
                            · intro w'
                              go_simp
                              with_reducible rfl
                            rotate_left
                            · simp only [Act.put, List.setIfInBounds_toArray, List.set_cons_zero, List.set_cons_succ, i64_w, i32_w]
                              rfl
                            refine pure_ (i := 8) (N := some 38) (v := ?_) (a' := ?_) #[true, true, true, false, true, false, false, true, true, false, false, false, false, false, false] rfl rfl (any_of HT_.out (by kernel_rfl)) (fun _ _ _ h => h) (Or.inl ⟨by rfl, ?_⟩) ?_ ?_
                            rotate_left
                            · intro w'
                              go_simp
                              with_reducible rfl
                            rotate_left
                            · simp only [Act.put, List.setIfInBounds_toArray, List.set_cons_zero, List.set_cons_succ, i64_w, i32_w]
                              rfl
                            refine pure_ (i := 9) (N := some 39) (v := ?_) (a' := ?_) #[true, true, true, false, true, false, false, true, true, true, false, false, false, false, false] rfl rfl (any_of HT_.out (by kernel_rfl)) (fun _ _ _ h => h) (Or.inl ⟨by rfl, ?_⟩) ?_ ?_
                            rotate_left
                            · intro w'
                              go_simp
                              with_reducible rfl
                            rotate_left
                            · simp only [Act.put, List.setIfInBounds_toArray, List.set_cons_zero, List.set_cons_succ, i64_w, i32_w]
                              rfl
                            refine pure_ (i := 11) (N := some 41) (v := ?_) (a' := ?_) #[true, true, true, false, true, false, false, true, true, true, false, true, false, false, false] rfl rfl (any_of HT_.out (by kernel_rfl)) (fun _ _ _ h => h) (Or.inl ⟨by rfl, ?_⟩) ?_ ?_
                            rotate_left
                            · intro w'
                              go_simp
                              with_reducible rfl
                            rotate_left
                            · simp only [Act.put, List.setIfInBounds_toArray, List.set_cons_zero, List.set_cons_succ, i64_w, i32_w]
                              rfl
                            refine take_ (i := 3) (N := some 33) (v := ?_) (a' := ?_) #[true, true, true, true, true, false, false, true, true, true, false, true, false, false, false] rfl rfl (take_ofW HT_.out HW_.out (by kernel_rfl)) (fun _ _ _ h => h) (Or.inl ⟨by rfl, ?_⟩) hHeld ?_ ?_
                            rotate_left
                            · rintro w' ⟨s0, s1, s2, s3, s4, s5⟩
                              go_simp
                              with_reducible rfl
                            rotate_left
                            · simp only [Act.put, List.setIfInBounds_toArray, List.set_cons_zero, List.set_cons_succ, i64_w, i32_w]
                              rfl
                            refine pure_ (i := 5) (N := some 35) (v := ?_) (a' := ?_) #[true, true, true, true, true, true, false, true, true, true, false, true, false, false, false] rfl rfl (any_of HT_.out (by kernel_rfl)) (fun _ _ _ h => h) (Or.inl ⟨by rfl, ?_⟩) ?_ ?_
                            rotate_left
                            · intro w'
                              go_simp
                              with_reducible rfl
                            rotate_left
                            · simp only [Act.put, List.setIfInBounds_toArray, List.set_cons_zero, List.set_cons_succ, i64_w, i32_w]
                              rfl
                            refine take_ (i := 6) (N := some 36) (v := ?_) (a' := ?_) #[true, true, true, true, true, true, true, true, true, true, false, true, false, false, false] rfl rfl (take_ofW HT_.out HW_.out (by kernel_rfl)) (fun _ _ _ h => h) (Or.inl ⟨by rfl, ?_⟩) hHeld ?_ ?_
                            rotate_left
                            · rintro w' ⟨s0, s1, s2, s3, s4, s5⟩
                              go_simp
                              with_reducible rfl
                            rotate_left
                            · simp only [Act.put, List.setIfInBounds_toArray, List.set_cons_zero, List.set_cons_succ, i64_w, i32_w]
                              rfl
                            refine take_ (i := 10) (N := some 40) (v := ?_) (a' := ?_) #[true, true, true, true, true, true, true, true, true, true, true, true, false, false, false] rfl rfl (take_ofW HT_.out HW_.out (by kernel_rfl)) (fun _ _ _ h => h) (Or.inl ⟨by rfl, ?_⟩) hHeld ?_ ?_
                            rotate_left
                            · rintro w' ⟨s0, s1, s2, s3, s4, s5⟩
                              go_simp
                              with_reducible rfl
                            rotate_left
                            · simp only [Act.put, List.setIfInBounds_toArray, List.set_cons_zero, List.set_cons_succ, i64_w, i32_w]
                              rfl
                            refine pure_ (i := 12) (N := some 42) (v := ?_) (a' := ?_) #[true, true, true, true, true, true, true, true, true, true, true, true, true, false, false] rfl rfl (any_of HT_.out (by kernel_rfl)) (fun _ _ _ h => h) (Or.inl ⟨by rfl, ?_⟩) ?_ ?_
                            rotate_left
                            · intro w'
                              go_simp
                              with_reducible rfl
                            rotate_left
                            · simp only [Act.put, List.setIfInBounds_toArray, List.set_cons_zero, List.set_cons_succ, i64_w, i32_w]
                              rfl
                            refine take_ (i := 13) (N := some 43) (v := ?_) (a' := ?_) #[true, true, true, true, true, true, true, true, true, true, true, true, true, true, false] rfl rfl (take_ofW HT_.out HW_.out (by kernel_rfl)) (fun _ _ _ h => h) (Or.inl ⟨by rfl, ?_⟩) hHeld ?_ ?_
                            rotate_left
                            · rintro w' ⟨s0, s1, s2, s3, s4, s5⟩
                              go_simp
                              with_reducible rfl
                            rotate_left
                            · simp only [Act.put, List.setIfInBounds_toArray, List.set_cons_zero, List.set_cons_succ, i64_w, i32_w]
                              rfl
                            refine one_ (i := 14) (N := some 44) #[true, true, true, true, true, true, true, true, true, true, true, true, true, true, true] rfl rfl (one_of HT_.out (by kernel_rfl)) (by decide) (fun K hK => ?_)
                            refine goes_ Try.func26 (by kernel_rfl) rfl #[.pointer (some ⟨g134, 0, none⟩), .agg #[.int .i16 ((rd_T60 (rd_L4 l0 x6_1) x7_2).f0), .int .i16 ((rd_T60 (rd_L4 l0 x6_1) x7_2).f1)], .agg #[.int .i16 ((rd_T60 (rd_L4 l0 x6_1) x7_2).f0), .int .i16 ((rd_T60 (rd_L4 l0 x6_1) x7_2).f1)]] (by rfl) rfl rfl (by (try simp only [List.map_toArray, List.map_cons, List.map_nil]); first | done | rfl | (simp only [List.length_drop, List.length_take]; rfl)) ?_
                            with_reducible refine (spec_l07Ink.calls k2 g134 x135000_2 ((rd_T60 (rd_L4 l0 x6_1) x7_2).f0) ((rd_T60 (rd_L4 l0 x6_1) x7_2).f1) ((rd_T60 (rd_L4 l0 x6_1) x7_2).f0) ((rd_T60 (rd_L4 l0 x6_1) x7_2).f1) t140 w _ ?side1 ?side2 A12.out).mono ?_
                            (case side1 => refine (show IsP2 gb2 w _ g134 _ from ?_).1; repeat (first | (with_reducible first | exact HI134.out | apply IsP2.alloc | apply IsP2.drewN | apply IsP2.drew) | exact HI134.out))
                            (case side2 => repeat (first | (with_reducible first | exact HB.out | apply below_alloc | apply pw_below_drewN | apply below_drew1 | refine below_set ?_ (IsP2.ge HI134.out)) | exact HB.out))
                            rintro e w19 ⟨rfl, hi, hb, hk⟩
                            refine ⟨_, rfl, ?_⟩
                            have n0_ := Aside0.mk (hb)
                            have n1_ := Aside0.mk (IsP2.call HI134.out hi hk)
                            clear HB
                            clear HI134
                            have HB := n0_
                            have HI134 := n1_
                            clear n0_ n1_
                            (try clear hb)
                            (try clear hb2)
                            (try clear hk)
                            (try clear hi)
                            refine hK.out _ _ ⟨(by first | exact ((HB.out.cell (World.block_lt_of_cell? w _ hw136_0)).trans hw136_0) | exact ((HB.out.cell (World.block_lt_of_cell? w _ hv136_0)).trans hv136_0) | exact hx136_0), (by first | exact ((HB.out.cell (World.block_lt_of_cell? w _ hw137_0)).trans hw137_0) | exact ((HB.out.cell (World.block_lt_of_cell? w _ hv137_0)).trans hv137_0) | exact hx137_0), (by first | exact ((HB.out.cell (World.block_lt_of_cell? w _ hw137_1)).trans hw137_1) | exact ((HB.out.cell (World.block_lt_of_cell? w _ hv137_1)).trans hv137_1) | exact hx137_1), (by first | exact ((HB.out.cell (World.block_lt_of_cell? w _ hw138_0)).trans hw138_0) | exact ((HB.out.cell (World.block_lt_of_cell? w _ hv138_0)).trans hv138_0) | exact hx138_0), (by first | exact ((HB.out.cell (World.block_lt_of_cell? w _ hw139_0)).trans hw139_0) | exact ((HB.out.cell (World.block_lt_of_cell? w _ hv139_0)).trans hv139_0) | exact hx139_0), (by first | exact ((HB.out.cell (World.block_lt_of_cell? w _ hw139_1)).trans hw139_1) | exact ((HB.out.cell (World.block_lt_of_cell? w _ hv139_1)).trans hv139_1) | exact hx139_1)⟩ (fun hHeld => ?_)
                            clear hK K
                            refine norm_ (a' := ?_) ?_ ?_
                            rotate_left
                            · show Act.put _ (some 44) _ = _
                              simp only [Act.put, List.setIfInBounds_toArray, List.set_cons_zero, List.set_cons_succ, i64_w, i32_w]
                              rfl
                            refine done_ (done_of HT_.out (by kernel_rfl)) ?_
                            try go_wp2
                            have n0_ := Aside0.mk (IsP2.drew HI134.out)
                            have n1_ := Aside0.mk (below_drew1 HB.out)
                            clear HI134
                            clear HB
                            have HI134 := n0_
                            have HB := n1_
                            clear n0_ n1_
                            have p141 : 0 ≤ (x6_1 : Int) := of_decide_eq_true (by first | (with_reducible assumption) | assumption)
                            have q141 : x6_1 < (l0.length : Int) := of_decide_eq_true (by first | (with_reducible assumption) | assumption)
                            obtain ⟨ad141, A141_0, c141_0, e141, hx141_0, hl141_0, hi141_0⟩ := at_L4 HR0.out x6_1 p141 q141
                            have hw141_0 := hx141_0
                            obtain rfl : ad135 = ad141 := (by injection e141)
                            replace hx141_0 := (HB.out.cell (World.block_lt_of_cell? w _ hx141_0)).trans hx141_0
                            have HR141_0 := Aside0.mk hi141_0
                            have HC141_0 := Aside0.mk hl141_0
                            clear hi141_0 hl141_0
                            replace p141 := eq_true p141
                            replace q141 := eq_true q141
                            have p142 : 0 ≤ ((ji14) : Int) := of_decide_eq_true (by first | (with_reducible assumption) | assumption)
                            have q142 : (ji14) < ((rd_L4 l0 x6_1).length : Int) := of_decide_eq_true (by first | (with_reducible assumption) | assumption)
                            obtain ⟨ad142, e142, hx142_0, hx142_1⟩ := at_T60 HR141_0.out (ji14) p142 q142
                            have hw142_1 := hx142_1
                            have hw142_0 := hx142_0
                            cases e142
                            replace hx142_0 := (HB.out.cell (World.block_lt_of_cell? w _ hx142_0)).trans hx142_0
                            replace hx142_1 := (HB.out.cell (World.block_lt_of_cell? w _ hx142_1)).trans hx142_1
                            replace p142 := eq_true p142
                            replace q142 := eq_true q142
                            have p143 : 0 ≤ (x6_1 : Int) := of_decide_eq_true (by first | (with_reducible assumption) | assumption)
                            have q143 : x6_1 < (l0.length : Int) := of_decide_eq_true (by first | (with_reducible assumption) | assumption)
                            obtain ⟨ad143, A143_0, c143_0, e143, hx143_0, hl143_0, hi143_0⟩ := at_L4 HR0.out x6_1 p143 q143
                            have hw143_0 := hx143_0
                            obtain rfl : ad135 = ad143 := (by injection e143)
                            replace hx143_0 := (HB.out.cell (World.block_lt_of_cell? w _ hx143_0)).trans hx143_0
                            have HR143_0 := Aside0.mk hi143_0
                            have HC143_0 := Aside0.mk hl143_0
                            clear hi143_0 hl143_0
                            replace p143 := eq_true p143
                            replace q143 := eq_true q143
                            have ea_ := Option.some.inj (hx141_0.symm.trans hx143_0)
                            injection ea_ with ea_ en_ ec_
                            subst ea_
                            subst ec_
                            clear en_
                            have p144 : 0 ≤ (x7_2 : Int) := of_decide_eq_true (by first | (with_reducible assumption) | assumption)
                            have q144 : x7_2 < ((rd_L4 l0 x6_1).length : Int) := of_decide_eq_true (by first | (with_reducible assumption) | assumption)
                            obtain ⟨ad144, e144, hx144_0, hx144_1⟩ := at_T60 HR143_0.out x7_2 p144 q144
                            have hw144_1 := hx144_1
                            have hw144_0 := hx144_0
                            cases e144
                            replace hx144_0 := (HB.out.cell (World.block_lt_of_cell? w _ hx144_0)).trans hx144_0
                            replace hx144_1 := (HB.out.cell (World.block_lt_of_cell? w _ hx144_1)).trans hx144_1
                            replace p144 := eq_true p144
                            replace q144 := eq_true q144
                            refine start_ (n := 16) (S := fun w' => w'.cell? (ad135.add (x6_1).toNat) = some (.slice (some ad142) (rd_L4 l0 x6_1).length c141_0) ∧ w'.cell? (ad142.add (((ji14)).toNat * 2)) = some (.int .i16 ((rd_T60 (rd_L4 l0 x6_1) (ji14)).f0)) ∧ w'.cell? ⟨(ad142.add (((ji14)).toNat * 2)).block, (ad142.add (((ji14)).toNat * 2)).off + 1, none⟩ = some (.int .i16 ((rd_T60 (rd_L4 l0 x6_1) (ji14)).f1)) ∧ w'.cell? (ad135.add (x6_1).toNat) = some (.slice (some ad142) (rd_L4 l0 x6_1).length c141_0) ∧ w'.cell? (ad142.add ((x7_2).toNat * 2)) = some (.int .i16 ((rd_T60 (rd_L4 l0 x6_1) x7_2).f0)) ∧ w'.cell? ⟨(ad142.add ((x7_2).toNat * 2)).block, (ad142.add ((x7_2).toNat * 2)).off + 1, none⟩ = some (.int .i16 ((rd_T60 (rd_L4 l0 x6_1) x7_2).f1))) (ds := []) #[false, false, false, false, false, false, false, false, false, false, false, false, false, false, false, false] (by kernel_rfl) rfl rfl ⟨(by first | exact ((HB.out.cell (World.block_lt_of_cell? w _ hw141_0)).trans hw141_0) | exact ((HB.out.cell (World.block_lt_of_cell? w _ hv141_0)).trans hv141_0) | exact hx141_0), (by first | exact ((HB.out.cell (World.block_lt_of_cell? w _ hw142_0)).trans hw142_0) | exact ((HB.out.cell (World.block_lt_of_cell? w _ hv142_0)).trans hv142_0) | exact hx142_0), (by first | exact ((HB.out.cell (World.block_lt_of_cell? w _ hw142_1)).trans hw142_1) | exact ((HB.out.cell (World.block_lt_of_cell? w _ hv142_1)).trans hv142_1) | exact hx142_1), (by first | exact ((HB.out.cell (World.block_lt_of_cell? w _ hw143_0)).trans hw143_0) | exact ((HB.out.cell (World.block_lt_of_cell? w _ hv143_0)).trans hv143_0) | exact hx143_0), (by first | exact ((HB.out.cell (World.block_lt_of_cell? w _ hw144_0)).trans hw144_0) | exact ((HB.out.cell (World.block_lt_of_cell? w _ hv144_0)).trans hv144_0) | exact hx144_0), (by first | exact ((HB.out.cell (World.block_lt_of_cell? w _ hw144_1)).trans hw144_1) | exact ((HB.out.cell (World.block_lt_of_cell? w _ hv144_1)).trans hv144_1) | exact hx144_1)⟩ (fun hHeld => ?_); refine with_tabW spec_DrawStrokes.tab13 spec_DrawStrokes.bits13 (fun HT_ HW_ => ?_)
                            generalize w19.drew = w20 at HI134 HB HR141_0 HR143_0 hx141_0 hx142_0 hx142_1 hx143_0 hx144_0 hx144_1 hHeld ⊢
                            refine pure_ (i := 0) (N := some 47) (v := ?_) (a' := ?_) #[true, false, false, false, false, false, false, false, false, false, false, false, false, false, false, false] rfl rfl (any_of HT_.out (by kernel_rfl)) (fun _ _ _ h => h) (Or.inl ⟨by rfl, ?_⟩) ?_ ?_
                            rotate_left
                            · intro w'
                              go_simp
                              with_reducible rfl
                            rotate_left
                            · simp only [Act.put, List.setIfInBounds_toArray, List.set_cons_zero, List.set_cons_succ, i64_w, i32_w]
                              rfl
                            refine pure_ (i := 1) (N := some 48) (v := ?_) (a' := ?_) #[true, true, false, false, false, false, false, false, false, false, false, false, false, false, false, false] rfl rfl (any_of HT_.out (by kernel_rfl)) (fun _ _ _ h => h) (Or.inl ⟨by rfl, ?_⟩) ?_ ?_
                            rotate_left
                            · intro w'
                              go_simp
                              with_reducible rfl
                            rotate_left
                            · simp only [Act.put, List.setIfInBounds_toArray, List.set_cons_zero, List.set_cons_succ, i64_w, i32_w]
                              rfl
                            refine pure_ (i := 2) (N := some 49) (v := ?_) (a' := ?_) #[true, true, true, false, false, false, false, false, false, false, false, false, false, false, false, false] rfl rfl (any_of HT_.out (by kernel_rfl)) (fun _ _ _ h => h) (Or.inl ⟨by rfl, ?_⟩) ?_ ?_
                            rotate_left
                            · intro w'
                              go_simp
                              with_reducible rfl
                            rotate_left
                            · simp only [Act.put, List.setIfInBounds_toArray, List.set_cons_zero, List.set_cons_succ, i64_w, i32_w]
                              rfl
                            refine pure_ (i := 4) (N := some 51) (v := ?_) (a' := ?_) #[true, true, true, false, true, false, false, false, false, false, false, false, false, false, false, false] rfl rfl (any_of HT_.out (by kernel_rfl)) (fun _ _ _ h => h) (Or.inl ⟨by rfl, ?_⟩) ?_ ?_
                            rotate_left
                            · intro w'
                              go_simp
                              with_reducible rfl
                            rotate_left
                            · simp only [Act.put, List.setIfInBounds_toArray, List.set_cons_zero, List.set_cons_succ, i64_w, i32_w]
                              rfl
                            refine pure_ (i := 5) (N := some 52) (v := ?_) (a' := ?_) #[true, true, true, false, true, true, false, false, false, false, false, false, false, false, false, false] rfl rfl (any_of HT_.out (by kernel_rfl)) (fun _ _ _ h => h) (Or.inl ⟨by rfl, ?_⟩) ?_ ?_
                            rotate_left
                            · intro w'
                              go_simp
                              with_reducible rfl
                            rotate_left
                            · simp only [Act.put, List.setIfInBounds_toArray, List.set_cons_zero, List.set_cons_succ, i64_w, i32_w]
                              rfl
                            refine pure_ (i := 8) (N := some 55) (v := ?_) (a' := ?_) #[true, true, true, false, true, true, false, false, true, false, false, false, false, false, false, false] rfl rfl (any_of HT_.out (by kernel_rfl)) (fun _ _ _ h => h) (Or.inl ⟨by rfl, ?_⟩) ?_ ?_
                            rotate_left
                            · intro w'
                              go_simp
                              with_reducible rfl
                            rotate_left
                            · simp only [Act.put, List.setIfInBounds_toArray, List.set_cons_zero, List.set_cons_succ, i64_w, i32_w]
                              rfl
                            refine pure_ (i := 9) (N := some 56) (v := ?_) (a' := ?_) #[true, true, true, false, true, true, false, false, true, true, false, false, false, false, false, false] rfl rfl (any_of HT_.out (by kernel_rfl)) (fun _ _ _ h => h) (Or.inl ⟨by rfl, ?_⟩) ?_ ?_
                            rotate_left
                            · intro w'
                              go_simp
                              with_reducible rfl
                            rotate_left
                            · simp only [Act.put, List.setIfInBounds_toArray, List.set_cons_zero, List.set_cons_succ, i64_w, i32_w]
                              rfl
                            refine pure_ (i := 10) (N := some 57) (v := ?_) (a' := ?_) #[true, true, true, false, true, true, false, false, true, true, true, false, false, false, false, false] rfl rfl (any_of HT_.out (by kernel_rfl)) (fun _ _ _ h => h) (Or.inl ⟨by rfl, ?_⟩) ?_ ?_
                            rotate_left
                            · intro w'
                              go_simp
                              with_reducible rfl
                            rotate_left
                            · simp only [Act.put, List.setIfInBounds_toArray, List.set_cons_zero, List.set_cons_succ, i64_w, i32_w]
                              rfl
                            refine pure_ (i := 12) (N := some 59) (v := ?_) (a' := ?_) #[true, true, true, false, true, true, false, false, true, true, true, false, true, false, false, false] rfl rfl (any_of HT_.out (by kernel_rfl)) (fun _ _ _ h => h) (Or.inl ⟨by rfl, ?_⟩) ?_ ?_
                            rotate_left
                            · intro w'
                              go_simp
                              with_reducible rfl
                            rotate_left
                            · simp only [Act.put, List.setIfInBounds_toArray, List.set_cons_zero, List.set_cons_succ, i64_w, i32_w]
                              rfl
                            refine take_ (i := 3) (N := some 50) (v := ?_) (a' := ?_) #[true, true, true, true, true, true, false, false, true, true, true, false, true, false, false, false] rfl rfl (take_ofW HT_.out HW_.out (by kernel_rfl)) (fun _ _ _ h => h) (Or.inl ⟨by rfl, ?_⟩) hHeld ?_ ?_
                            rotate_left
                            · rintro w' ⟨s0, s1, s2, s3, s4, s5⟩
                              go_simp
                              with_reducible rfl
                            rotate_left
                            · simp only [Act.put, List.setIfInBounds_toArray, List.set_cons_zero, List.set_cons_succ, i64_w, i32_w]
                              rfl
                            refine pure_ (i := 6) (N := some 53) (v := ?_) (a' := ?_) #[true, true, true, true, true, true, true, false, true, true, true, false, true, false, false, false] rfl rfl (any_of HT_.out (by kernel_rfl)) (fun _ _ _ h => h) (Or.inl ⟨by rfl, ?_⟩) ?_ ?_
                            rotate_left
                            · intro w'
                              go_simp
                              with_reducible rfl
                            rotate_left
                            · simp only [Act.put, List.setIfInBounds_toArray, List.set_cons_zero, List.set_cons_succ, i64_w, i32_w]
                              rfl
                            refine take_ (i := 7) (N := some 54) (v := ?_) (a' := ?_) #[true, true, true, true, true, true, true, true, true, true, true, false, true, false, false, false] rfl rfl (take_ofW HT_.out HW_.out (by kernel_rfl)) (fun _ _ _ h => h) (Or.inl ⟨by rfl, ?_⟩) hHeld ?_ ?_
                            rotate_left
                            · rintro w' ⟨s0, s1, s2, s3, s4, s5⟩
                              go_simp
                              with_reducible rfl
                            rotate_left
                            · simp only [Act.put, List.setIfInBounds_toArray, List.set_cons_zero, List.set_cons_succ, i64_w, i32_w]
                              rfl
                            refine take_ (i := 11) (N := some 58) (v := ?_) (a' := ?_) #[true, true, true, true, true, true, true, true, true, true, true, true, true, false, false, false] rfl rfl (take_ofW HT_.out HW_.out (by kernel_rfl)) (fun _ _ _ h => h) (Or.inl ⟨by rfl, ?_⟩) hHeld ?_ ?_
                            rotate_left
                            · rintro w' ⟨s0, s1, s2, s3, s4, s5⟩
                              go_simp
                              with_reducible rfl
                            rotate_left
                            · simp only [Act.put, List.setIfInBounds_toArray, List.set_cons_zero, List.set_cons_succ, i64_w, i32_w]
                              rfl
                            refine pure_ (i := 13) (N := some 60) (v := ?_) (a' := ?_) #[true, true, true, true, true, true, true, true, true, true, true, true, true, true, false, false] rfl rfl (any_of HT_.out (by kernel_rfl)) (fun _ _ _ h => h) (Or.inl ⟨by rfl, ?_⟩) ?_ ?_
                            rotate_left
                            · intro w'
                              go_simp
                              with_reducible rfl
                            rotate_left
                            · simp only [Act.put, List.setIfInBounds_toArray, List.set_cons_zero, List.set_cons_succ, i64_w, i32_w]
                              rfl
                            refine take_ (i := 14) (N := some 61) (v := ?_) (a' := ?_) #[true, true, true, true, true, true, true, true, true, true, true, true, true, true, true, false] rfl rfl (take_ofW HT_.out HW_.out (by kernel_rfl)) (fun _ _ _ h => h) (Or.inl ⟨by rfl, ?_⟩) hHeld ?_ ?_
                            rotate_left
                            · rintro w' ⟨s0, s1, s2, s3, s4, s5⟩
                              go_simp
                              with_reducible rfl
                            rotate_left
                            · simp only [Act.put, List.setIfInBounds_toArray, List.set_cons_zero, List.set_cons_succ, i64_w, i32_w]
                              rfl
                            refine one_ (i := 15) (N := some 62) #[true, true, true, true, true, true, true, true, true, true, true, true, true, true, true, true] rfl rfl (one_of HT_.out (by kernel_rfl)) (by decide) (fun K hK => ?_)
                            refine goes_ Try.func26 (by kernel_rfl) rfl #[.pointer (some ⟨g134, 0, none⟩), .agg #[.int .i16 ((rd_T60 (rd_L4 l0 x6_1) (ji14)).f0), .int .i16 ((rd_T60 (rd_L4 l0 x6_1) (ji14)).f1)], .agg #[.int .i16 ((rd_T60 (rd_L4 l0 x6_1) x7_2).f0), .int .i16 ((rd_T60 (rd_L4 l0 x6_1) x7_2).f1)]] (by rfl) rfl rfl (by (try simp only [List.map_toArray, List.map_cons, List.map_nil]); first | done | (simp only [hji14]; rfl) | rfl | (simp only [List.length_drop, List.length_take]; rfl)) ?_
                            with_reducible refine (spec_l07Ink.calls k2 g134 t140 ((rd_T60 (rd_L4 l0 x6_1) (ji14)).f0) ((rd_T60 (rd_L4 l0 x6_1) (ji14)).f1) ((rd_T60 (rd_L4 l0 x6_1) x7_2).f0) ((rd_T60 (rd_L4 l0 x6_1) x7_2).f1) t145 w _ ?side1 ?side2 A17.out).mono ?_
                            (case side1 => refine (show IsP2 gb2 w _ g134 _ from ?_).1; repeat (first | (with_reducible first | exact HI134.out | apply IsP2.alloc | apply IsP2.drewN | apply IsP2.drew) | exact HI134.out))
                            (case side2 => repeat (first | (with_reducible first | exact HB.out | apply below_alloc | apply pw_below_drewN | apply below_drew1 | refine below_set ?_ (IsP2.ge HI134.out)) | exact HB.out))
                            rintro e w21 ⟨rfl, hi, hb, hk⟩
                            refine ⟨_, rfl, ?_⟩
                            have n0_ := Aside0.mk (hb)
                            have n1_ := Aside0.mk (IsP2.call HI134.out hi hk)
                            clear HB
                            clear HI134
                            have HB := n0_
                            have HI134 := n1_
                            clear n0_ n1_
                            (try clear hb)
                            (try clear hb2)
                            (try clear hk)
                            (try clear hi)
                            refine hK.out _ _ ⟨(by first | exact ((HB.out.cell (World.block_lt_of_cell? w _ hw141_0)).trans hw141_0) | exact ((HB.out.cell (World.block_lt_of_cell? w _ hv141_0)).trans hv141_0) | exact hx141_0), (by first | exact ((HB.out.cell (World.block_lt_of_cell? w _ hw142_0)).trans hw142_0) | exact ((HB.out.cell (World.block_lt_of_cell? w _ hv142_0)).trans hv142_0) | exact hx142_0), (by first | exact ((HB.out.cell (World.block_lt_of_cell? w _ hw142_1)).trans hw142_1) | exact ((HB.out.cell (World.block_lt_of_cell? w _ hv142_1)).trans hv142_1) | exact hx142_1), (by first | exact ((HB.out.cell (World.block_lt_of_cell? w _ hw143_0)).trans hw143_0) | exact ((HB.out.cell (World.block_lt_of_cell? w _ hv143_0)).trans hv143_0) | exact hx143_0), (by first | exact ((HB.out.cell (World.block_lt_of_cell? w _ hw144_0)).trans hw144_0) | exact ((HB.out.cell (World.block_lt_of_cell? w _ hv144_0)).trans hv144_0) | exact hx144_0), (by first | exact ((HB.out.cell (World.block_lt_of_cell? w _ hw144_1)).trans hw144_1) | exact ((HB.out.cell (World.block_lt_of_cell? w _ hv144_1)).trans hv144_1) | exact hx144_1)⟩ (fun hHeld => ?_)
                            clear hK K
                            refine norm_ (a' := ?_) ?_ ?_
                            rotate_left
                            · show Act.put _ (some 62) _ = _
                              simp only [Act.put, List.setIfInBounds_toArray, List.set_cons_zero, List.set_cons_succ, i64_w, i32_w]
                              rfl
                            refine done_ (done_of HT_.out (by kernel_rfl)) ?_
                            try go_wp2
                            go_roundg k2
                            case measure => have := HK1.out; have := HK2.out; omega
                            case rel => exact ⟨(wrap64 (x7_2 + 1)), (t145), (by first | rfl | (simp; done) | (simp [*]; done)), H', ⟨by have := HK1.out; have := HK2.out; omega⟩, ⟨by repeat (first | (with_reducible first | exact HI134.out | apply IsP2.alloc | apply IsP2.drewN | apply IsP2.drew) | exact HI134.out | (simp only [Int.add_zero]))⟩, ⟨by repeat (first | (with_reducible first | exact HB.out | apply below_alloc | apply pw_below_drewN | apply below_drew1 | refine below_set ?_ (IsP2.ge HI134.out)) | exact HB.out)⟩⟩
                          · rw [if_neg c16] at H
                            exact absurd H (by simp)
                        · rw [if_neg c15] at H
                          exact absurd H (by simp)
                      · rw [if_neg c13] at H
                        have c13b0 : decide (0 < x7_2) = false := decide_eq_false c13
                        clear c13
                        have H' := Aside0.mk H
                        clear H
                        have p135 : 0 ≤ (x6_1 : Int) := of_decide_eq_true (by first | (with_reducible assumption) | assumption)
                        have q135 : x6_1 < (l0.length : Int) := of_decide_eq_true (by first | (with_reducible assumption) | assumption)
                        obtain ⟨ad135, A135_0, c135_0, e135, hx135_0, hl135_0, hi135_0⟩ := at_L4 HR0.out x6_1 p135 q135
                        cases e135
                        replace hx135_0 := (HB.out.cell (World.block_lt_of_cell? w _ hx135_0)).trans hx135_0
                        have HR135_0 := Aside0.mk hi135_0
                        have HC135_0 := Aside0.mk hl135_0
                        clear hi135_0 hl135_0
                        replace p135 := eq_true p135
                        replace q135 := eq_true q135
                        try go_wp2
                        have n0_ := Aside0.mk (IsP2.drew HI134.out)
                        have n1_ := Aside0.mk (below_drew1 HB.out)
                        clear HI134
                        clear HB
                        have HI134 := n0_
                        have HB := n1_
                        clear n0_ n1_
                        have p136 : 0 ≤ (x6_1 : Int) := of_decide_eq_true (by first | (with_reducible assumption) | assumption)
                        have q136 : x6_1 < (l0.length : Int) := of_decide_eq_true (by first | (with_reducible assumption) | assumption)
                        obtain ⟨ad136, A136_0, c136_0, e136, hx136_0, hl136_0, hi136_0⟩ := at_L4 HR0.out x6_1 p136 q136
                        have hw136_0 := hx136_0
                        obtain rfl : ad135 = ad136 := (by injection e136)
                        replace hx136_0 := (HB.out.cell (World.block_lt_of_cell? w _ hx136_0)).trans hx136_0
                        have HR136_0 := Aside0.mk hi136_0
                        have HC136_0 := Aside0.mk hl136_0
                        clear hi136_0 hl136_0
                        replace p136 := eq_true p136
                        replace q136 := eq_true q136
                        have p137 : 0 ≤ (x7_2 : Int) := of_decide_eq_true (by first | (with_reducible assumption) | assumption)
                        have q137 : x7_2 < ((rd_L4 l0 x6_1).length : Int) := of_decide_eq_true (by first | (with_reducible assumption) | assumption)
                        obtain ⟨ad137, e137, hx137_0, hx137_1⟩ := at_T60 HR136_0.out x7_2 p137 q137
                        have hw137_1 := hx137_1
                        have hw137_0 := hx137_0
                        cases e137
                        replace hx137_0 := (HB.out.cell (World.block_lt_of_cell? w _ hx137_0)).trans hx137_0
                        replace hx137_1 := (HB.out.cell (World.block_lt_of_cell? w _ hx137_1)).trans hx137_1
                        replace p137 := eq_true p137
                        replace q137 := eq_true q137
                        have p138 : 0 ≤ (x6_1 : Int) := of_decide_eq_true (by first | (with_reducible assumption) | assumption)
                        have q138 : x6_1 < (l0.length : Int) := of_decide_eq_true (by first | (with_reducible assumption) | assumption)
                        obtain ⟨ad138, A138_0, c138_0, e138, hx138_0, hl138_0, hi138_0⟩ := at_L4 HR0.out x6_1 p138 q138
                        have hw138_0 := hx138_0
                        obtain rfl : ad135 = ad138 := (by injection e138)
                        replace hx138_0 := (HB.out.cell (World.block_lt_of_cell? w _ hx138_0)).trans hx138_0
                        have HR138_0 := Aside0.mk hi138_0
                        have HC138_0 := Aside0.mk hl138_0
                        clear hi138_0 hl138_0
                        replace p138 := eq_true p138
                        replace q138 := eq_true q138
                        have ea_ := Option.some.inj (hx136_0.symm.trans hx138_0)
                        injection ea_ with ea_ en_ ec_
                        subst ea_
                        subst ec_
                        clear en_
                        have p139 : 0 ≤ (x7_2 : Int) := of_decide_eq_true (by first | (with_reducible assumption) | assumption)
                        have q139 : x7_2 < ((rd_L4 l0 x6_1).length : Int) := of_decide_eq_true (by first | (with_reducible assumption) | assumption)
                        obtain ⟨ad139, e139, hx139_0, hx139_1⟩ := at_T60 HR138_0.out x7_2 p139 q139
                        have hw139_1 := hx139_1
                        have hw139_0 := hx139_0
                        cases e139
                        replace hx139_0 := (HB.out.cell (World.block_lt_of_cell? w _ hx139_0)).trans hx139_0
                        replace hx139_1 := (HB.out.cell (World.block_lt_of_cell? w _ hx139_1)).trans hx139_1
                        replace p139 := eq_true p139
                        replace q139 := eq_true q139
                        refine start_ (n := 15) (S := fun w' => w'.cell? (ad135.add (x6_1).toNat) = some (.slice (some ad137) (rd_L4 l0 x6_1).length c136_0) ∧ w'.cell? (ad137.add ((x7_2).toNat * 2)) = some (.int .i16 ((rd_T60 (rd_L4 l0 x6_1) x7_2).f0)) ∧ w'.cell? ⟨(ad137.add ((x7_2).toNat * 2)).block, (ad137.add ((x7_2).toNat * 2)).off + 1, none⟩ = some (.int .i16 ((rd_T60 (rd_L4 l0 x6_1) x7_2).f1)) ∧ w'.cell? (ad135.add (x6_1).toNat) = some (.slice (some ad137) (rd_L4 l0 x6_1).length c136_0) ∧ w'.cell? (ad137.add ((x7_2).toNat * 2)) = some (.int .i16 ((rd_T60 (rd_L4 l0 x6_1) x7_2).f0)) ∧ w'.cell? ⟨(ad137.add ((x7_2).toNat * 2)).block, (ad137.add ((x7_2).toNat * 2)).off + 1, none⟩ = some (.int .i16 ((rd_T60 (rd_L4 l0 x6_1) x7_2).f1))) (ds := []) #[false, false, false, false, false, false, false, false, false, false, false, false, false, false, false] (by kernel_rfl) rfl rfl ⟨(by first | exact ((HB.out.cell (World.block_lt_of_cell? w _ hw136_0)).trans hw136_0) | exact ((HB.out.cell (World.block_lt_of_cell? w _ hv136_0)).trans hv136_0) | exact hx136_0), (by first | exact ((HB.out.cell (World.block_lt_of_cell? w _ hw137_0)).trans hw137_0) | exact ((HB.out.cell (World.block_lt_of_cell? w _ hv137_0)).trans hv137_0) | exact hx137_0), (by first | exact ((HB.out.cell (World.block_lt_of_cell? w _ hw137_1)).trans hw137_1) | exact ((HB.out.cell (World.block_lt_of_cell? w _ hv137_1)).trans hv137_1) | exact hx137_1), (by first | exact ((HB.out.cell (World.block_lt_of_cell? w _ hw138_0)).trans hw138_0) | exact ((HB.out.cell (World.block_lt_of_cell? w _ hv138_0)).trans hv138_0) | exact hx138_0), (by first | exact ((HB.out.cell (World.block_lt_of_cell? w _ hw139_0)).trans hw139_0) | exact ((HB.out.cell (World.block_lt_of_cell? w _ hv139_0)).trans hv139_0) | exact hx139_0), (by first | exact ((HB.out.cell (World.block_lt_of_cell? w _ hw139_1)).trans hw139_1) | exact ((HB.out.cell (World.block_lt_of_cell? w _ hv139_1)).trans hv139_1) | exact hx139_1)⟩ (fun hHeld => ?_); refine with_tabW spec_DrawStrokes.tab11 spec_DrawStrokes.bits11 (fun HT_ HW_ => ?_)
                        generalize wr.drew = w22 at HI134 HB HR136_0 HR138_0 hx136_0 hx137_0 hx137_1 hx138_0 hx139_0 hx139_1 hHeld ⊢
                        refine pure_ (i := 0) (N := some 30) (v := ?_) (a' := ?_) #[true, false, false, false, false, false, false, false, false, false, false, false, false, false, false] rfl rfl (any_of HT_.out (by kernel_rfl)) (fun _ _ _ h => h) (Or.inl ⟨by rfl, ?_⟩) ?_ ?_
                        rotate_left
                        · intro w'
                          go_simp
                          with_reducible rfl
                        rotate_left
                        · simp only [Act.put, List.setIfInBounds_toArray, List.set_cons_zero, List.set_cons_succ, i64_w, i32_w]
                          rfl
                        refine pure_ (i := 1) (N := some 31) (v := ?_) (a' := ?_) #[true, true, false, false, false, false, false, false, false, false, false, false, false, false, false] rfl rfl (any_of HT_.out (by kernel_rfl)) (fun _ _ _ h => h) (Or.inl ⟨by rfl, ?_⟩) ?_ ?_
                        rotate_left
                        · intro w'
                          go_simp
                          with_reducible rfl
                        rotate_left
                        · simp only [Act.put, List.setIfInBounds_toArray, List.set_cons_zero, List.set_cons_succ, i64_w, i32_w]
                          rfl
                        refine pure_ (i := 2) (N := some 32) (v := ?_) (a' := ?_) #[true, true, true, false, false, false, false, false, false, false, false, false, false, false, false] rfl rfl (any_of HT_.out (by kernel_rfl)) (fun _ _ _ h => h) (Or.inl ⟨by rfl, ?_⟩) ?_ ?_
                        rotate_left
                        · intro w'
                          go_simp
                          with_reducible rfl
                        rotate_left
                        · simp only [Act.put, List.setIfInBounds_toArray, List.set_cons_zero, List.set_cons_succ, i64_w, i32_w]
                          rfl
                        refine pure_ (i := 4) (N := some 34) (v := ?_) (a' := ?_) #[true, true, true, false, true, false, false, false, false, false, false, false, false, false, false] rfl rfl (any_of HT_.out (by kernel_rfl)) (fun _ _ _ h => h) (Or.inl ⟨by rfl, ?_⟩) ?_ ?_
                        rotate_left
                        · intro w'
                          go_simp
                          with_reducible rfl
                        rotate_left
                        · simp only [Act.put, List.setIfInBounds_toArray, List.set_cons_zero, List.set_cons_succ, i64_w, i32_w]
                          rfl
                        refine pure_ (i := 7) (N := some 37) (v := ?_) (a' := ?_) #[true, true, true, false, true, false, false, true, false, false, false, false, false, false, false] rfl rfl (any_of HT_.out (by kernel_rfl)) (fun _ _ _ h => h) (Or.inl ⟨by rfl, ?_⟩) ?_ ?_
                        rotate_left
                        · intro w'
                          go_simp
                          with_reducible rfl
                        rotate_left
                        · simp only [Act.put, List.setIfInBounds_toArray, List.set_cons_zero, List.set_cons_succ, i64_w, i32_w]
                          rfl
                        refine pure_ (i := 8) (N := some 38) (v := ?_) (a' := ?_) #[true, true, true, false, true, false, false, true, true, false, false, false, false, false, false] rfl rfl (any_of HT_.out (by kernel_rfl)) (fun _ _ _ h => h) (Or.inl ⟨by rfl, ?_⟩) ?_ ?_
                        rotate_left
                        · intro w'
                          go_simp
                          with_reducible rfl
                        rotate_left
                        · simp only [Act.put, List.setIfInBounds_toArray, List.set_cons_zero, List.set_cons_succ, i64_w, i32_w]
                          rfl
                        refine pure_ (i := 9) (N := some 39) (v := ?_) (a' := ?_) #[true, true, true, false, true, false, false, true, true, true, false, false, false, false, false] rfl rfl (any_of HT_.out (by kernel_rfl)) (fun _ _ _ h => h) (Or.inl ⟨by rfl, ?_⟩) ?_ ?_
                        rotate_left
                        · intro w'
                          go_simp
                          with_reducible rfl
                        rotate_left
                        · simp only [Act.put, List.setIfInBounds_toArray, List.set_cons_zero, List.set_cons_succ, i64_w, i32_w]
                          rfl
                        refine pure_ (i := 11) (N := some 41) (v := ?_) (a' := ?_) #[true, true, true, false, true, false, false, true, true, true, false, true, false, false, false] rfl rfl (any_of HT_.out (by kernel_rfl)) (fun _ _ _ h => h) (Or.inl ⟨by rfl, ?_⟩) ?_ ?_
                        rotate_left
                        · intro w'
                          go_simp
                          with_reducible rfl
                        rotate_left
                        · simp only [Act.put, List.setIfInBounds_toArray, List.set_cons_zero, List.set_cons_succ, i64_w, i32_w]
                          rfl
                        refine take_ (i := 3) (N := some 33) (v := ?_) (a' := ?_) #[true, true, true, true, true, false, false, true, true, true, false, true, false, false, false] rfl rfl (take_ofW HT_.out HW_.out (by kernel_rfl)) (fun _ _ _ h => h) (Or.inl ⟨by rfl, ?_⟩) hHeld ?_ ?_
                        rotate_left
                        · rintro w' ⟨s0, s1, s2, s3, s4, s5⟩
                          go_simp
                          with_reducible rfl
                        rotate_left
                        · simp only [Act.put, List.setIfInBounds_toArray, List.set_cons_zero, List.set_cons_succ, i64_w, i32_w]
                          rfl
                        refine pure_ (i := 5) (N := some 35) (v := ?_) (a' := ?_) #[true, true, true, true, true, true, false, true, true, true, false, true, false, false, false] rfl rfl (any_of HT_.out (by kernel_rfl)) (fun _ _ _ h => h) (Or.inl ⟨by rfl, ?_⟩) ?_ ?_
                        rotate_left
                        · intro w'
                          go_simp
                          with_reducible rfl
                        rotate_left
                        · simp only [Act.put, List.setIfInBounds_toArray, List.set_cons_zero, List.set_cons_succ, i64_w, i32_w]
                          rfl
                        refine take_ (i := 6) (N := some 36) (v := ?_) (a' := ?_) #[true, true, true, true, true, true, true, true, true, true, false, true, false, false, false] rfl rfl (take_ofW HT_.out HW_.out (by kernel_rfl)) (fun _ _ _ h => h) (Or.inl ⟨by rfl, ?_⟩) hHeld ?_ ?_
                        rotate_left
                        · rintro w' ⟨s0, s1, s2, s3, s4, s5⟩
                          go_simp
                          with_reducible rfl
                        rotate_left
                        · simp only [Act.put, List.setIfInBounds_toArray, List.set_cons_zero, List.set_cons_succ, i64_w, i32_w]
                          rfl
                        refine take_ (i := 10) (N := some 40) (v := ?_) (a' := ?_) #[true, true, true, true, true, true, true, true, true, true, true, true, false, false, false] rfl rfl (take_ofW HT_.out HW_.out (by kernel_rfl)) (fun _ _ _ h => h) (Or.inl ⟨by rfl, ?_⟩) hHeld ?_ ?_
                        rotate_left
                        · rintro w' ⟨s0, s1, s2, s3, s4, s5⟩
                          go_simp
                          with_reducible rfl
                        rotate_left
                        · simp only [Act.put, List.setIfInBounds_toArray, List.set_cons_zero, List.set_cons_succ, i64_w, i32_w]
                          rfl
                        refine pure_ (i := 12) (N := some 42) (v := ?_) (a' := ?_) #[true, true, true, true, true, true, true, true, true, true, true, true, true, false, false] rfl rfl (any_of HT_.out (by kernel_rfl)) (fun _ _ _ h => h) (Or.inl ⟨by rfl, ?_⟩) ?_ ?_
                        rotate_left
                        · intro w'
                          go_simp
                          with_reducible rfl
                        rotate_left
                        · simp only [Act.put, List.setIfInBounds_toArray, List.set_cons_zero, List.set_cons_succ, i64_w, i32_w]
                          rfl
                        refine take_ (i := 13) (N := some 43) (v := ?_) (a' := ?_) #[true, true, true, true, true, true, true, true, true, true, true, true, true, true, false] rfl rfl (take_ofW HT_.out HW_.out (by kernel_rfl)) (fun _ _ _ h => h) (Or.inl ⟨by rfl, ?_⟩) hHeld ?_ ?_
                        rotate_left
                        · rintro w' ⟨s0, s1, s2, s3, s4, s5⟩
                          go_simp
                          with_reducible rfl
                        rotate_left
                        · simp only [Act.put, List.setIfInBounds_toArray, List.set_cons_zero, List.set_cons_succ, i64_w, i32_w]
                          rfl
                        refine one_ (i := 14) (N := some 44) #[true, true, true, true, true, true, true, true, true, true, true, true, true, true, true] rfl rfl (one_of HT_.out (by kernel_rfl)) (by decide) (fun K hK => ?_)
                        refine goes_ Try.func26 (by kernel_rfl) rfl #[.pointer (some ⟨g134, 0, none⟩), .agg #[.int .i16 ((rd_T60 (rd_L4 l0 x6_1) x7_2).f0), .int .i16 ((rd_T60 (rd_L4 l0 x6_1) x7_2).f1)], .agg #[.int .i16 ((rd_T60 (rd_L4 l0 x6_1) x7_2).f0), .int .i16 ((rd_T60 (rd_L4 l0 x6_1) x7_2).f1)]] (by rfl) rfl rfl (by (try simp only [List.map_toArray, List.map_cons, List.map_nil]); first | done | rfl | (simp only [List.length_drop, List.length_take]; rfl)) ?_
                        with_reducible refine (spec_l07Ink.calls k2 g134 x135000_2 ((rd_T60 (rd_L4 l0 x6_1) x7_2).f0) ((rd_T60 (rd_L4 l0 x6_1) x7_2).f1) ((rd_T60 (rd_L4 l0 x6_1) x7_2).f0) ((rd_T60 (rd_L4 l0 x6_1) x7_2).f1) t140 w _ ?side1 ?side2 A12.out).mono ?_
                        (case side1 => refine (show IsP2 gb2 w _ g134 _ from ?_).1; repeat (first | (with_reducible first | exact HI134.out | apply IsP2.alloc | apply IsP2.drewN | apply IsP2.drew) | exact HI134.out))
                        (case side2 => repeat (first | (with_reducible first | exact HB.out | apply below_alloc | apply pw_below_drewN | apply below_drew1 | refine below_set ?_ (IsP2.ge HI134.out)) | exact HB.out))
                        rintro e w23 ⟨rfl, hi, hb, hk⟩
                        refine ⟨_, rfl, ?_⟩
                        have n0_ := Aside0.mk (hb)
                        have n1_ := Aside0.mk (IsP2.call HI134.out hi hk)
                        clear HB
                        clear HI134
                        have HB := n0_
                        have HI134 := n1_
                        clear n0_ n1_
                        (try clear hb)
                        (try clear hb2)
                        (try clear hk)
                        (try clear hi)
                        refine hK.out _ _ ⟨(by first | exact ((HB.out.cell (World.block_lt_of_cell? w _ hw136_0)).trans hw136_0) | exact ((HB.out.cell (World.block_lt_of_cell? w _ hv136_0)).trans hv136_0) | exact hx136_0), (by first | exact ((HB.out.cell (World.block_lt_of_cell? w _ hw137_0)).trans hw137_0) | exact ((HB.out.cell (World.block_lt_of_cell? w _ hv137_0)).trans hv137_0) | exact hx137_0), (by first | exact ((HB.out.cell (World.block_lt_of_cell? w _ hw137_1)).trans hw137_1) | exact ((HB.out.cell (World.block_lt_of_cell? w _ hv137_1)).trans hv137_1) | exact hx137_1), (by first | exact ((HB.out.cell (World.block_lt_of_cell? w _ hw138_0)).trans hw138_0) | exact ((HB.out.cell (World.block_lt_of_cell? w _ hv138_0)).trans hv138_0) | exact hx138_0), (by first | exact ((HB.out.cell (World.block_lt_of_cell? w _ hw139_0)).trans hw139_0) | exact ((HB.out.cell (World.block_lt_of_cell? w _ hv139_0)).trans hv139_0) | exact hx139_0), (by first | exact ((HB.out.cell (World.block_lt_of_cell? w _ hw139_1)).trans hw139_1) | exact ((HB.out.cell (World.block_lt_of_cell? w _ hv139_1)).trans hv139_1) | exact hx139_1)⟩ (fun hHeld => ?_)
                        clear hK K
                        refine norm_ (a' := ?_) ?_ ?_
                        rotate_left
                        · show Act.put _ (some 44) _ = _
                          simp only [Act.put, List.setIfInBounds_toArray, List.set_cons_zero, List.set_cons_succ, i64_w, i32_w]
                          rfl
                        refine done_ (done_of HT_.out (by kernel_rfl)) ?_
                        try go_wp2
                        go_roundg k2
                        case measure => have := HK1.out; have := HK2.out; omega
                        case rel => exact ⟨(wrap64 (x7_2 + 1)), (t140), (by first | rfl | (simp; done) | (simp [*]; done)), H', ⟨by have := HK1.out; have := HK2.out; omega⟩, ⟨by repeat (first | (with_reducible first | exact HI134.out | apply IsP2.alloc | apply IsP2.drewN | apply IsP2.drew) | exact HI134.out | (simp only [Int.add_zero]))⟩, ⟨by repeat (first | (with_reducible first | exact HB.out | apply below_alloc | apply pw_below_drewN | apply below_drew1 | refine below_set ?_ (IsP2.ge HI134.out)) | exact HB.out)⟩⟩
                    · rw [if_neg c11] at H
                      exact absurd H (by simp)
                  · rw [if_neg c10] at H
                    have c10b0 : decide (x7_2 < ((rd_L4 l0 x6_1).length : Int)) = false := decide_eq_false c10
                    clear c10
                    have H' := Aside0.mk H
                    clear H
                    have p135 : 0 ≤ (x6_1 : Int) := of_decide_eq_true (by first | (with_reducible assumption) | assumption)
                    have q135 : x6_1 < (l0.length : Int) := of_decide_eq_true (by first | (with_reducible assumption) | assumption)
                    obtain ⟨ad135, A135_0, c135_0, e135, hx135_0, hl135_0, hi135_0⟩ := at_L4 HR0.out x6_1 p135 q135
                    cases e135
                    replace hx135_0 := (HB.out.cell (World.block_lt_of_cell? w _ hx135_0)).trans hx135_0
                    have HR135_0 := Aside0.mk hi135_0
                    have HC135_0 := Aside0.mk hl135_0
                    clear hi135_0 hl135_0
                    replace p135 := eq_true p135
                    replace q135 := eq_true q135
                    go_wp2
                    go_roundg k2
                    case measure => have := HK1.out; have := HK2.out; omega
                    case rel => exact ⟨(wrap64 (x6_1 + 1)), (x135000_2), (by first | rfl | (simp; done) | (simp [*]; done)), H', ⟨by have := HK1.out; have := HK2.out; omega⟩, ⟨by repeat (first | (with_reducible first | exact HI134.out | apply IsP2.alloc | apply IsP2.drewN | apply IsP2.drew) | exact HI134.out | (simp only [Int.add_zero]))⟩, ⟨by repeat (first | (with_reducible first | exact HB.out | apply below_alloc | apply pw_below_drewN | apply below_drew1 | refine below_set ?_ (IsP2.ge HI134.out)) | exact HB.out)⟩⟩
                · rw [if_neg c9] at H
                  exact absurd H (by simp)
              · rw [if_neg c8] at H
                exact absurd H (by simp)
        · rw [if_neg c7] at H
          have c7b0 : decide (x6_1 < (l0.length : Int)) = false := decide_eq_false c7
          clear c7
          simp only [Option.some.injEq, Prod.mk.injEq] at H
          obtain ⟨hY_, rfl⟩ := H
          go_upto_region 14 with (fail)
          refine wp_region_lit ?_
          refine pl_load (p := 5) (g := g134) (x := x135000_1) ?hg ?ho ?hp HI134.out.1.1 Try.underlying26 (by kernel_rfl) ?_
          (case ho => rfl)
          (case hg => rfl)
          (case hp => rfl)
          refine pl_store (p := 2) (v := ?vv2) (g := gb2) (x := x135000_1) ?hg ?ho ?hn ?hp ?hv HI134.out.2.1 (plA_size _) (by kernel_rfl) ?_; (case ho => rfl); (case hg => rfl); (case hn => rfl); (case hp => rfl); (case hv => rfl); intro w9 hw; have RB := Aside0.mk (show w9.heap[gb2]? = some (.cells (plA x135000_1) 26 (0, 0)) from by rw [hw]; exact blk_putP HI134.out.2.1 _); have n0_ := Aside0.mk (show Below w.heap.size w w9 from by rw [hw]; exact below_setP HB.out HI134.out.2.2.2); clear HB; have HB := n0_; clear n0_ hw
          (try simp only [Act.put, List.setIfInBounds_toArray, List.set_cons_zero, List.set_cons_succ])
          go_wp2
          refine bodyPost_ret (results_ct rfl _ _ gb2 26 (plA x135000_1) (0, 0) _ rfl RB.out Try.underlying26 rfl (by kernel_rfl)) rfl ?_
          exact ⟨by rw [← hY_]; rfl, HB.out⟩
  · rw [if_neg c3] at H
    have c3b0 : (t132 == 0) = false := beq_eq_false_iff_ne.mpr c3
    have c3b1 : (t132 != 0) = true := bne_iff_ne.mpr c3
    simp only [Option.some.injEq, Prod.mk.injEq] at H
    obtain ⟨rfl, rfl⟩ := H
    go_enter Try.func7, Try.ntmps7
    go_wp2_with (first | ((with_reducible refine gate_dst (N := 2) rfl ?_); refine box_event ?hg (N := 2) ?hd (cs := plA pl0_) (t := 26) ?hr ?_; (case hd => rfl); (case hg => rfl); (case hr => first | (go_simp; done) | (go_simp; rfl)); intro gb2 hg w3 hbox hb; have n0_ := Aside0.mk (below_step HB.out hb); have BK2 := Aside0.mk hbox; have GE2 := Aside0.mk (show w.heap.size ≤ gb2 from by rw [hg]; exact below_size HB.out); clear HB; have HB := n0_; clear n0_ hb hbox hg) | ((with_reducible refine gate_callee (f := 25) rfl ?_); refine goesL_ (some 9) rfl rfl Try.func25 (by kernel_rfl) rfl #[.slice A0 l0.length c0] rfl (by (try simp only [List.map_toArray, List.map_cons, List.map_nil]); first | done | rfl | (simp only [List.length_drop, List.length_take]; rfl)) ?_; (with_reducible refine (spec_l07Strokes.calls k _ _ l0 t132 _ ?side1 ?side2 A2.out).mono ?_); (case side1 => repeat (first | exact (Kd.C_below HR0.out HB.out) | (with_reducible refine Kd.C_alloc ?_ _) | (with_reducible refine Kd.C_drewN ?_ _) | (with_reducible refine Kd.C_drew ?_))); (case side2 => exact HC0.out); rintro e w25 ⟨rfl, hb⟩; refine ⟨_, rfl, ?_⟩; have nb_ := Aside0.mk (blk_below BK2.out hb); clear BK2; have BK2 := nb_; clear nb_; have n0_ := Aside0.mk (below_step (by repeat (first | (with_reducible first | exact HB.out | apply below_alloc | apply pw_below_drewN | apply below_drew1) | exact HB.out)) hb); clear HB; have HB := n0_; clear n0_; (try clear hb); (try clear hb2); (try clear hk); (try clear hi)) | ((with_reducible refine gate_store (t := 26) (p := 2) rfl ?_); refine pl_store (p := 2) (v := ?vv3) (g := gb2) (x := pl0_) ?hg ?ho ?hn ?hp ?hv BK2.out (plA_size _) (by kernel_rfl) ?_; (case ho => rfl); (case hg => rfl); (case hn => rfl); (case hp => rfl); (case hv => rfl); intro w9 hw; have RB := Aside0.mk (show w9.heap[gb2]? = some (.cells (plA pl0_) 26 (0, 0)) from by rw [hw]; exact blk_putP BK2.out _); have n0_ := Aside0.mk (show Below w.heap.size w w9 from by rw [hw]; exact below_setP HB.out GE2.out); clear HB; have HB := n0_; clear n0_ hw))
    refine bodyPost_ret (results_ct rfl _ _ gb2 26 (plA pl0_) (0, 0) _ rfl RB.out Try.underlying26 rfl (by kernel_rfl)) rfl ?_
    exact ⟨by first | rfl | (simp; done), HB.out⟩

end Go.Proofs.Ytkgeppbjfkhjcaa.XFnExactDrawStrokes
