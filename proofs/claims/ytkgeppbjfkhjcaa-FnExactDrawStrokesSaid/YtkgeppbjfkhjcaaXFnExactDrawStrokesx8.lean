/- Printed by this repository's own program (wip/tools/xprint.py) for the law FnExactDrawStrokes: Lean functions that say what the Go functions compute, and the proofs that the machine comes to just that; no condition beyond those in each statement. -/
import Derived.Deep.WholeRow
import Derived.Laws.CopyOwn
import Derived.Test.YtkgeppbjfkhjcaaXFnExactDrawStrokesx0
import Derived.Test.YtkgeppbjfkhjcaaXFnExactDrawStrokesx3
import Derived.Test.YtkgeppbjfkhjcaaXFnExactDrawStrokesx6
import Derived.Test.YtkgeppbjfkhjcaaXFnExactDrawStrokesx7
namespace Go.Proofs.Ytkgeppbjfkhjcaa.XFnExactDrawStrokes
open Go.RowKit Go.Proofs.YtkgeppbjfkhjcaaW.PrintWords Go.Proofs.YtkgeppbjfkhjcaaW.PrintLast Go.Proofs.YtkgeppbjfkhjcaaW.PrintMore
attribute [local go_sem] max2_int min2_int max_two min_two max_three min_three max_four min_four   -- for this text's walks alone
set_option linter.unusedVariables false
set_option linter.unusedSimpArgs false

/-! ### impl_Plate_line: function 29 -/
def impl_Plate_line.l0 : Nat → List (S60) → Int → Int → List Int → Option (List Int)
  | 0, _, _, _, _ => none
  | k + 1, x10, x11, x12, x1000 => if x12 < x11 then (if 0 ≤ x12 then (if x12 < (x10.length : Int) then ((impl_Plate_ink.f x1000 ((rd_T60 x10 x12).f0) ((rd_T60 x10 x12).f1)).bind fun t195 => (impl_Plate_line.l0 k x10 x11 (wrap64 (x12 + 1)) t195)) else (none)) else (none)) else (some x1000)
def impl_Plate_line.f (k : Nat) (s0_0 : List Int) (a1_0 : Int) (a1_1 : Int) (a2_0 : Int) (a2_1 : Int) : Option (List Int) := (impl_lineOf.f k a1_0 a1_1 a2_0 a2_1).bind fun t190 => (impl_Plate_line.l0 k t190 (t190.length : Int) 0 s0_0)
theorem impl_Plate_line.mono_l : ∀ k, (∀ y0 y1 y2 y3, LeO (impl_Plate_line.l0 k y0 y1 y2 y3) (impl_Plate_line.l0 (k + 1) y0 y1 y2 y3))
  | 0 => fun _ _ _ _ r h => by simp [impl_Plate_line.l0] at h
  | k + 1 => by
    have ih0 := impl_Plate_line.mono_l k
    · intro y0 y1 y2 y3
      unfold impl_Plate_line.l0
      repeat' first
      | (with_reducible exact ih0 _ _ _ _)
      | (with_reducible exact impl_lineOf.mono _ _ _ _ _)
      | (with_reducible exact LeO.refl _)
      | (with_reducible exact LeO.none _)
      | (with_reducible refine LeO.ite ?_ ?_)
      | (with_reducible refine LeO.bind ?_ (fun _ => ?_))
      | exact ih0 _ _ _ _
      | exact impl_lineOf.mono _ _ _ _ _
      | exact LeO.none _
      | refine LeO.ite ?_ ?_
      | refine LeO.bind ?_ (fun _ => ?_)
theorem impl_Plate_line.mono : ∀ a0 a1 a2 a3 a4 k, LeO (impl_Plate_line.f k a0 a1 a2 a3 a4) (impl_Plate_line.f (k + 1) a0 a1 a2 a3 a4) := by
  intro a0 a1 a2 a3 a4 k
  have ih0 := impl_Plate_line.mono_l k
  unfold impl_Plate_line.f
  repeat' first
      | (with_reducible exact ih0 _ _ _ _)
      | (with_reducible exact impl_lineOf.mono _ _ _ _ _)
      | (with_reducible exact LeO.refl _)
      | (with_reducible exact LeO.none _)
      | (with_reducible refine LeO.ite ?_ ?_)
      | (with_reducible refine LeO.bind ?_ (fun _ => ?_))
      | exact ih0 _ _ _ _
      | exact impl_lineOf.mono _ _ _ _ _
      | exact LeO.none _
      | refine LeO.ite ?_ ?_
      | refine LeO.bind ?_ (fun _ => ?_)
set_option maxHeartbeats 8000000 in
set_option maxRecDepth 100000 in
theorem impl_Plate_line.calls (k : Nat) (g : Nat) (s0_0 : List Int) (a1_0 : Int) (a1_1 : Int) (a2_0 : Int) (a2_1 : Int) (r : List Int) (w0 w : World) (hI : IsS26 w0 w g s0_0) (hB : Below w0.heap.size w0 w) (h : impl_Plate_line.f k s0_0 a1_0 a1_1 a2_0 a2_1 = some r) :
    Calls Try.prog 29 #[.pointer (some ⟨g, 0, none⟩), .agg #[.int .i16 a1_0, .int .i16 a1_1], .agg #[.int .i16 a2_0, .int .i16 a2_1]] w fun e w' => e = .returned (.tuple #[]) ∧ IsS26 w0 w' g r ∧ Below w0.heap.size w0 w' ∧ KeepBut w w' g none := by
  have hu60 := Try.underlying60
  have HI0 := Aside0.mk hI
  have HK := Aside0.mk (KeepBut.refl w g none)
  have HL := Aside0.mk hB.size
  clear hI
  have HW0 := Aside0.mk hB.size
  have HB := Aside0.mk hB
  clear hB
  have H : ((impl_lineOf.f k a1_0 a1_1 a2_0 a2_1).bind fun t190 => (impl_Plate_line.l0 k t190 (t190.length : Int) 0 s0_0)) = some r := h
  clear h
  replace H := Option.bind_eq_some_iff.mp H
  obtain ⟨t190, A40, H⟩ := H
  replace H : (impl_Plate_line.l0 k t190 (t190.length : Int) 0 s0_0) = some r := H
  have A4 := Aside0.mk A40
  clear A40
  have H' := Aside0.mk H
  clear H
  go_enter Try.func29, Try.ntmps29
  go_wp2_with (first | ((with_reducible refine gate_dst (N := 4) rfl ?_); refine box_event ?hg (N := 4) ?hd (cs := #[.int .i16 a1_0, .int .i16 a1_1]) (t := 60) ?hr ?_; (case hd => rfl); (case hg => rfl); (case hr => first | (go_simp; done) | (go_simp; rfl)); intro gb188 hg w5 hbox hb; have n0_ := Aside0.mk (IsS26.below (by repeat (first | (with_reducible first | exact HI0.out | apply IsS26.alloc | apply IsS26.drewN | apply IsS26.drew | apply IsS26.set_0) | exact HI0.out | (simp only [Int.add_zero]))) hb); have n1_ := Aside0.mk (KeepBut.trans (by repeat (first | (with_reducible first | exact HK.out | apply KeepBut.set_ | apply keep_drewN | apply keep_drew | apply keep_alloc) | exact HK.out)) (KeepBut.of_below hb g none) (.inl rfl)); have n2_ := Aside0.mk (below_step (by repeat (first | (with_reducible first | exact HB.out | apply below_alloc | apply pw_below_drewN | apply below_drew1 | refine below_set ?_ (IsS26.ge HI0.out)) | exact HB.out)) hb); have n3_ := Aside0.mk (hbox); have n4_ := Aside0.mk ((by rw [hg]; exact (keep_size (w := w) (g := g) (row := none) (by repeat (first | (with_reducible first | exact HK.out | apply KeepBut.set_ | apply keep_drewN | apply keep_drew | apply keep_alloc) | exact HK.out))) : w.heap.size ≤ gb188)); have n5_ := Aside0.mk ((Nat.le_trans HW0.out (by rw [hg]; exact (keep_size (w := w) (g := g) (row := none) (by repeat (first | (with_reducible first | exact HK.out | apply KeepBut.set_ | apply keep_drewN | apply keep_drew | apply keep_alloc) | exact HK.out))) : w.heap.size ≤ gb188) : w0.heap.size ≤ gb188)); have n6_ := Aside0.mk ((by rw [hg]; exact Nat.ne_of_lt (IsS26.lt (show IsS26 w0 _ g s0_0 from by repeat (first | (with_reducible first | exact HI0.out | apply IsS26.alloc | apply IsS26.drewN | apply IsS26.drew | apply IsS26.set_0) | exact HI0.out | (simp only [Int.add_zero])))) : g ≠ gb188)); have n7_ := Aside0.mk ((by rw [hg]; exact Nat.ne_of_gt (IsS26.lt (show IsS26 w0 _ g s0_0 from by repeat (first | (with_reducible first | exact HI0.out | apply IsS26.alloc | apply IsS26.drewN | apply IsS26.drew | apply IsS26.set_0) | exact HI0.out | (simp only [Int.add_zero])))) : gb188 ≠ g)); clear HI0; clear HK; clear HB; have HI0 := n0_; have HK := n1_; have HB := n2_; have BK188 := n3_; have GW188 := n4_; have GE188 := n5_; have NB0_188 := n6_; have NB188_0 := n7_; clear n0_ n1_ n2_ n3_ n4_ n5_ n6_ n7_; clear hb hbox hg) | ((with_reducible refine gate_dst (N := 5) rfl ?_); refine box_event ?hg (N := 5) ?hd (cs := #[.int .i16 a2_0, .int .i16 a2_1]) (t := 60) ?hr ?_; (case hd => rfl); (case hg => rfl); (case hr => first | (go_simp; done) | (go_simp; rfl)); intro gb189 hg w6 hbox hb; have n0_ := Aside0.mk (IsS26.below (by repeat (first | (with_reducible first | exact HI0.out | apply IsS26.alloc | apply IsS26.drewN | apply IsS26.drew | apply IsS26.set_0 | refine IsS26.far ?_ NB0_188.out _) | exact HI0.out | (simp only [Int.add_zero]))) hb); have n1_ := Aside0.mk (blk_below (g := gb188) (o := .cells #[.int .i16 a1_0, .int .i16 a1_1] 60 (0, 0)) (by (with_reducible repeat (first | refine blk_drewN ?_ _ | refine blk_drew ?_ | refine blk_alloc ?_ _)); exact BK188.out) hb); have n2_ := Aside0.mk (KeepBut.trans (by repeat (first | (with_reducible first | exact HK.out | apply KeepBut.set_ | apply keep_drewN | apply keep_drew | apply keep_alloc | refine keep_far ?_ GW188.out _) | exact HK.out)) (KeepBut.of_below hb g none) (.inl rfl)); have n3_ := Aside0.mk (below_step (by repeat (first | (with_reducible first | exact HB.out | apply below_alloc | apply pw_below_drewN | apply below_drew1 | refine below_set ?_ (IsS26.ge HI0.out) | refine below_set ?_ GE188.out) | exact HB.out)) hb); have n4_ := Aside0.mk (hbox); have n5_ := Aside0.mk ((by rw [hg]; exact (keep_size (w := w) (g := g) (row := none) (by repeat (first | (with_reducible first | exact HK.out | apply KeepBut.set_ | apply keep_drewN | apply keep_drew | apply keep_alloc | refine keep_far ?_ GW188.out _) | exact HK.out))) : w.heap.size ≤ gb189)); have n6_ := Aside0.mk ((Nat.le_trans HW0.out (by rw [hg]; exact (keep_size (w := w) (g := g) (row := none) (by repeat (first | (with_reducible first | exact HK.out | apply KeepBut.set_ | apply keep_drewN | apply keep_drew | apply keep_alloc | refine keep_far ?_ GW188.out _) | exact HK.out))) : w.heap.size ≤ gb189) : w0.heap.size ≤ gb189)); have n7_ := Aside0.mk ((by rw [hg]; exact Nat.ne_of_lt (blk_lt (g := gb188) (o := .cells #[.int .i16 a1_0, .int .i16 a1_1] 60 (0, 0)) (by (with_reducible repeat (first | refine blk_drewN ?_ _ | refine blk_drew ?_ | refine blk_alloc ?_ _)); exact BK188.out)) : gb188 ≠ gb189)); have n8_ := Aside0.mk ((by rw [hg]; exact Nat.ne_of_gt (blk_lt (g := gb188) (o := .cells #[.int .i16 a1_0, .int .i16 a1_1] 60 (0, 0)) (by (with_reducible repeat (first | refine blk_drewN ?_ _ | refine blk_drew ?_ | refine blk_alloc ?_ _)); exact BK188.out)) : gb189 ≠ gb188)); have n9_ := Aside0.mk ((by rw [hg]; exact Nat.ne_of_lt (IsS26.lt (show IsS26 w0 _ g s0_0 from by repeat (first | (with_reducible first | exact HI0.out | apply IsS26.alloc | apply IsS26.drewN | apply IsS26.drew | apply IsS26.set_0 | refine IsS26.far ?_ NB0_188.out _) | exact HI0.out | (simp only [Int.add_zero])))) : g ≠ gb189)); have n10_ := Aside0.mk ((by rw [hg]; exact Nat.ne_of_gt (IsS26.lt (show IsS26 w0 _ g s0_0 from by repeat (first | (with_reducible first | exact HI0.out | apply IsS26.alloc | apply IsS26.drewN | apply IsS26.drew | apply IsS26.set_0 | refine IsS26.far ?_ NB0_188.out _) | exact HI0.out | (simp only [Int.add_zero])))) : gb189 ≠ g)); clear HI0; clear BK188; clear HK; clear HB; have HI0 := n0_; have BK188 := n1_; have HK := n2_; have HB := n3_; have BK189 := n4_; have GW189 := n5_; have GE189 := n6_; have NB188_189 := n7_; have NB189_188 := n8_; have NB0_189 := n9_; have NB189_0 := n10_; clear n0_ n1_ n2_ n3_ n4_ n5_ n6_ n7_ n8_ n9_ n10_; clear hb hbox hg; have hnb7 := NB188_189.out; have hnc7 := NB189_188.out; have hnb8 := NB188_0.out; have hnc8 := NB0_188.out; have hcz9_0 : w6.cell? ⟨gb188, 0, none⟩ = some (.int .i16 a1_0) := (blk_cell BK188.out 0).trans rfl; have hcz9_1 : w6.cell? ⟨gb188, 1, none⟩ = some (.int .i16 a1_1) := (blk_cell BK188.out 1).trans rfl; have hfz9_0 := blk_frozen BK188.out 0; have hfz9_1 := blk_frozen BK188.out 1; have hnb10 := NB189_0.out; have hnc10 := NB0_189.out; have hcz11_0 : w6.cell? ⟨gb189, 0, none⟩ = some (.int .i16 a2_0) := (blk_cell BK189.out 0).trans rfl; have hcz11_1 : w6.cell? ⟨gb189, 1, none⟩ = some (.int .i16 a2_1) := (blk_cell BK189.out 1).trans rfl; have hfz11_0 := blk_frozen BK189.out 0; have hfz11_1 := blk_frozen BK189.out 1) | ((with_reducible refine gate_callee (f := 56) rfl ?_); refine goesL_ (some 10) rfl rfl Try.func56 (by kernel_rfl) rfl #[.agg #[.int .i16 a1_0, .int .i16 a1_1], .agg #[.int .i16 a2_0, .int .i16 a2_1]] rfl (by (try simp only [List.map_toArray, List.map_cons, List.map_nil]); first | done | rfl | (simp only [List.length_drop, List.length_take]; rfl)) ?_; (with_reducible refine (impl_lineOf.calls k a1_0 a1_1 a2_0 a2_1 t190 _ A4.out).mono ?_); rintro e w12 ⟨v191, rfl, ho0, hb⟩; refine ⟨_, rfl, ?_⟩; have n0_ := Aside0.mk (Kd.R_lower (Kd.R_newB (Kd.R_newB ho0 (g := gb188) (o := .cells #[.int .i16 a1_0, .int .i16 a1_1] 60 (0, 0)) (by (with_reducible repeat (first | refine blk_drewN ?_ _ | refine blk_drew ?_ | refine blk_alloc ?_ _)); exact BK188.out)) (g := gb189) (o := .cells #[.int .i16 a2_0, .int .i16 a2_1] 60 (0, 0)) (by (with_reducible repeat (first | refine blk_drewN ?_ _ | refine blk_drew ?_ | refine blk_alloc ?_ _)); exact BK189.out)) (keep_size (w := w) (g := g) (row := none) (by repeat (first | (with_reducible first | exact HK.out | apply KeepBut.set_ | apply keep_drewN | apply keep_drew | apply keep_alloc | refine keep_far ?_ GW188.out _ | refine keep_far ?_ GW189.out _) | exact HK.out)))); have n1_ := Aside0.mk (IsS26.below (by repeat (first | (with_reducible first | exact HI0.out | apply IsS26.alloc | apply IsS26.drewN | apply IsS26.drew | apply IsS26.set_0 | refine IsS26.far ?_ NB0_188.out _ | refine IsS26.far ?_ NB0_189.out _) | exact HI0.out | (simp only [Int.add_zero]))) hb); have n2_ := Aside0.mk (blk_below (g := gb188) (o := .cells #[.int .i16 a1_0, .int .i16 a1_1] 60 (0, 0)) (by (with_reducible repeat (first | refine blk_drewN ?_ _ | refine blk_drew ?_ | refine blk_alloc ?_ _)); exact BK188.out) hb); have n3_ := Aside0.mk (blk_below (g := gb189) (o := .cells #[.int .i16 a2_0, .int .i16 a2_1] 60 (0, 0)) (by (with_reducible repeat (first | refine blk_drewN ?_ _ | refine blk_drew ?_ | refine blk_alloc ?_ _)); exact BK189.out) hb); have n4_ := Aside0.mk (KeepBut.trans (by repeat (first | (with_reducible first | exact HK.out | apply KeepBut.set_ | apply keep_drewN | apply keep_drew | apply keep_alloc | refine keep_far ?_ GW188.out _ | refine keep_far ?_ GW189.out _) | exact HK.out)) (KeepBut.of_below hb g none) (.inl rfl)); have n5_ := Aside0.mk (below_step (by repeat (first | (with_reducible first | exact HB.out | apply below_alloc | apply pw_below_drewN | apply below_drew1 | refine below_set ?_ (IsS26.ge HI0.out) | refine below_set ?_ GE188.out | refine below_set ?_ GE189.out) | exact HB.out)) hb); clear HI0; clear BK188; clear BK189; clear HK; clear HB; have HO192 := n0_; have HI0 := n1_; have BK188 := n2_; have BK189 := n3_; have HK := n4_; have HB := n5_; clear n0_ n1_ n2_ n3_ n4_ n5_; (try clear hb); (try clear hb2); (try clear hk); (try clear hi); (try clear ho0); obtain ⟨Ao13, co13, eo13⟩ := Kd.R_slice HO192.out; subst eo13))
  go_loopg [12] k (fun kq v12 w' => ∃ (x12_1 : Int) (x1000_1 : List Int), v12 = .int .i64 x12_1 ∧ Aside0 (impl_Plate_line.l0 kq t190 (t190.length : Int) x12_1 x1000_1 = some r) ∧ Aside0 (kq ≤ k) ∧ Aside0 (Kd.R k60 60 w' w.heap.size (fun k_ => k_ ≠ gb188 ∧ k_ ≠ gb189) (.slice Ao13 t190.length co13) t190) ∧ Aside0 (w'.heap[gb188]? = some (.cells #[.int .i16 a1_0, .int .i16 a1_1] 60 (0, 0))) ∧ Aside0 (w'.heap[gb189]? = some (.cells #[.int .i16 a2_0, .int .i16 a2_1] 60 (0, 0))) ∧ Aside0 (IsS26 w0 w' g x1000_1) ∧ Aside0 (KeepBut w w' g none) ∧ Aside0 (Below w0.heap.size w0 w'))
  case atStart => exact ⟨(0), (s0_0), (by first | rfl | (simp; done) | (simp [*]; done)), H', ⟨Nat.le_refl _⟩, ⟨by (with_reducible repeat (first | apply Kd.R_alloc | apply Kd.R_drewN | apply Kd.R_drew)); exact Kd.R_mono HO192.out (fun _ hk => ⟨hk.1.2, hk.2⟩)⟩, ⟨by (with_reducible repeat (first | refine blk_drewN ?_ _ | refine blk_drew ?_ | refine blk_alloc ?_ _)); exact BK188.out⟩, ⟨by (with_reducible repeat (first | refine blk_drewN ?_ _ | refine blk_drew ?_ | refine blk_alloc ?_ _)); exact BK189.out⟩, ⟨by repeat (first | (with_reducible first | exact HI0.out | apply IsS26.alloc | apply IsS26.drewN | apply IsS26.drew | apply IsS26.set_0 | refine IsS26.far ?_ NB0_188.out _ | refine IsS26.far ?_ NB0_189.out _) | exact HI0.out | (simp only [Int.add_zero]))⟩, ⟨by repeat (first | (with_reducible first | exact HK.out | apply KeepBut.set_ | apply keep_drewN | apply keep_drew | apply keep_alloc | refine keep_far ?_ GW188.out _ | refine keep_far ?_ GW189.out _) | exact HK.out)⟩, ⟨by repeat (first | (with_reducible first | exact HB.out | apply below_alloc | apply pw_below_drewN | apply below_drew1 | refine below_set ?_ (IsS26.ge HI0.out) | refine below_set ?_ GE188.out | refine below_set ?_ GE189.out) | exact HB.out)⟩⟩
  case round =>
    clear H'
    try clear c1
    try clear c2
    try clear p2
    try clear c5
    try clear c7
    try clear c8
    try clear c10
    try clear hcz11_0
    try clear hcz11_1
    try clear hcz9_0
    try clear hcz9_1
    try clear hfz11_0
    try clear hfz11_1
    try clear hfz9_0
    try clear hfz9_1
    obtain ⟨x12_1, x1000_1, rfl, HA, HK1, HO_10, BK188, BK189, HI0, HK, HB⟩ := hrel
    cases gk with
    | zero => exact absurd HA.out (by simp [impl_Plate_line.l0])
    | succ k1 =>
      have H := HA.out
      clear HA
      simp only [impl_Plate_line.l0] at H
      by_cases c14 : x12_1 < (t190.length : Int)
      · rw [if_pos c14] at H
        have c14b0 : decide (x12_1 < (t190.length : Int)) = true := decide_eq_true c14
        clear c14
        by_cases c15 : 0 ≤ x12_1
        · rw [if_pos c15] at H
          have c15b0 : decide (0 ≤ x12_1) = true := decide_eq_true c15
          clear c15
          by_cases c16 : x12_1 < (t190.length : Int)
          · rw [if_pos c16] at H
            have c16b0 : decide (x12_1 < (t190.length : Int)) = true := decide_eq_true c16
            clear c16
            replace H := Option.bind_eq_some_iff.mp H
            obtain ⟨t195, A170, H⟩ := H
            replace H : (impl_Plate_line.l0 k1 t190 (t190.length : Int) (wrap64 (x12_1 + 1)) t195) = some r := H
            have A17 := Aside0.mk A170
            clear A170
            have H' := Aside0.mk H
            clear H
            have p193 : 0 ≤ (x12_1 : Int) := of_decide_eq_true (by first | (with_reducible assumption) | assumption)
            have q193 : x12_1 < (t190.length : Int) := of_decide_eq_true (by first | (with_reducible assumption) | assumption)
            obtain ⟨ad193, e193, hx193_0, hx193_1⟩ := at_T60 (Kd.R_reads' HO_10.out).2.2 x12_1 p193 q193
            cases e193
            replace p193 := eq_true p193
            replace q193 := eq_true q193
            go_wp2_with (first | ((with_reducible refine gate_dst (N := 7) rfl ?_); refine box_event ?hg (N := 7) ?hd (cs := #[.int .i16 0, .int .i16 0]) (t := 60) ?hr ?_; (case hd => rfl); (case hg => rfl); (case hr => first | (go_simp; done) | (go_simp; rfl)); intro gb194 hg w18 hbox hb; have n0_ := Aside0.mk (Kd.R_below (Kd.R_elderB (by (with_reducible repeat (first | apply Kd.R_alloc | apply Kd.R_drewN | apply Kd.R_drew)); exact HO_10.out) gb194 (Nat.le_of_eq hg.symm)) hb); have n1_ := Aside0.mk (blk_below (g := gb188) (o := .cells #[.int .i16 a1_0, .int .i16 a1_1] 60 (0, 0)) (by (with_reducible repeat (first | refine blk_drewN ?_ _ | refine blk_drew ?_ | refine blk_alloc ?_ _)); exact BK188.out) hb); have n2_ := Aside0.mk (blk_below (g := gb189) (o := .cells #[.int .i16 a2_0, .int .i16 a2_1] 60 (0, 0)) (by (with_reducible repeat (first | refine blk_drewN ?_ _ | refine blk_drew ?_ | refine blk_alloc ?_ _)); exact BK189.out) hb); have n3_ := Aside0.mk (IsS26.below (by repeat (first | (with_reducible first | exact HI0.out | apply IsS26.alloc | apply IsS26.drewN | apply IsS26.drew | apply IsS26.set_0 | refine IsS26.far ?_ NB0_188.out _ | refine IsS26.far ?_ NB0_189.out _) | exact HI0.out | (simp only [Int.add_zero]))) hb); have n4_ := Aside0.mk (KeepBut.trans (by repeat (first | (with_reducible first | exact HK.out | apply KeepBut.set_ | apply keep_drewN | apply keep_drew | apply keep_alloc | refine keep_far ?_ GW188.out _ | refine keep_far ?_ GW189.out _) | exact HK.out)) (KeepBut.of_below hb g none) (.inl rfl)); have n5_ := Aside0.mk (below_step (by repeat (first | (with_reducible first | exact HB.out | apply below_alloc | apply pw_below_drewN | apply below_drew1 | refine below_set ?_ (IsS26.ge HI0.out) | refine below_set ?_ GE188.out | refine below_set ?_ GE189.out) | exact HB.out)) hb); have n6_ := Aside0.mk (hbox); have n7_ := Aside0.mk ((by rw [hg]; exact (keep_size (w := w) (g := g) (row := none) (by repeat (first | (with_reducible first | exact HK.out | apply KeepBut.set_ | apply keep_drewN | apply keep_drew | apply keep_alloc | refine keep_far ?_ GW188.out _ | refine keep_far ?_ GW189.out _) | exact HK.out))) : w.heap.size ≤ gb194)); have n8_ := Aside0.mk ((Nat.le_trans HW0.out (by rw [hg]; exact (keep_size (w := w) (g := g) (row := none) (by repeat (first | (with_reducible first | exact HK.out | apply KeepBut.set_ | apply keep_drewN | apply keep_drew | apply keep_alloc | refine keep_far ?_ GW188.out _ | refine keep_far ?_ GW189.out _) | exact HK.out))) : w.heap.size ≤ gb194) : w0.heap.size ≤ gb194)); have n9_ := Aside0.mk ((by rw [hg]; exact Nat.ne_of_lt (blk_lt (g := gb188) (o := .cells #[.int .i16 a1_0, .int .i16 a1_1] 60 (0, 0)) (by (with_reducible repeat (first | refine blk_drewN ?_ _ | refine blk_drew ?_ | refine blk_alloc ?_ _)); exact BK188.out)) : gb188 ≠ gb194)); have n10_ := Aside0.mk ((by rw [hg]; exact Nat.ne_of_gt (blk_lt (g := gb188) (o := .cells #[.int .i16 a1_0, .int .i16 a1_1] 60 (0, 0)) (by (with_reducible repeat (first | refine blk_drewN ?_ _ | refine blk_drew ?_ | refine blk_alloc ?_ _)); exact BK188.out)) : gb194 ≠ gb188)); have n11_ := Aside0.mk ((by rw [hg]; exact Nat.ne_of_lt (blk_lt (g := gb189) (o := .cells #[.int .i16 a2_0, .int .i16 a2_1] 60 (0, 0)) (by (with_reducible repeat (first | refine blk_drewN ?_ _ | refine blk_drew ?_ | refine blk_alloc ?_ _)); exact BK189.out)) : gb189 ≠ gb194)); have n12_ := Aside0.mk ((by rw [hg]; exact Nat.ne_of_gt (blk_lt (g := gb189) (o := .cells #[.int .i16 a2_0, .int .i16 a2_1] 60 (0, 0)) (by (with_reducible repeat (first | refine blk_drewN ?_ _ | refine blk_drew ?_ | refine blk_alloc ?_ _)); exact BK189.out)) : gb194 ≠ gb189)); have n13_ := Aside0.mk ((by rw [hg]; exact Nat.ne_of_lt (IsS26.lt (show IsS26 w0 _ g x1000_1 from by repeat (first | (with_reducible first | exact HI0.out | apply IsS26.alloc | apply IsS26.drewN | apply IsS26.drew | apply IsS26.set_0 | refine IsS26.far ?_ NB0_188.out _ | refine IsS26.far ?_ NB0_189.out _) | exact HI0.out | (simp only [Int.add_zero])))) : g ≠ gb194)); have n14_ := Aside0.mk ((by rw [hg]; exact Nat.ne_of_gt (IsS26.lt (show IsS26 w0 _ g x1000_1 from by repeat (first | (with_reducible first | exact HI0.out | apply IsS26.alloc | apply IsS26.drewN | apply IsS26.drew | apply IsS26.set_0 | refine IsS26.far ?_ NB0_188.out _ | refine IsS26.far ?_ NB0_189.out _) | exact HI0.out | (simp only [Int.add_zero])))) : gb194 ≠ g)); clear HO_10; clear BK188; clear BK189; clear HI0; clear HK; clear HB; have HO_10 := n0_; have BK188 := n1_; have BK189 := n2_; have HI0 := n3_; have HK := n4_; have HB := n5_; have BK194 := n6_; have GW194 := n7_; have GE194 := n8_; have NB188_194 := n9_; have NB194_188 := n10_; have NB189_194 := n11_; have NB194_189 := n12_; have NB0_194 := n13_; have NB194_0 := n14_; clear n0_ n1_ n2_ n3_ n4_ n5_ n6_ n7_ n8_ n9_ n10_ n11_ n12_ n13_ n14_; clear hb hbox hg; have hnb19 := NB194_188.out; have hnc19 := NB188_194.out; have hnb20 := NB194_189.out; have hnc20 := NB189_194.out; have hnb21 := NB194_0.out; have hnc21 := NB0_194.out; have hcz22_0 : w18.cell? ⟨gb194, 0, none⟩ = some (.int .i16 0) := (blk_cell BK194.out 0).trans rfl; have hcz22_1 : w18.cell? ⟨gb194, 1, none⟩ = some (.int .i16 0) := (blk_cell BK194.out 1).trans rfl; have hfz22_0 := blk_frozen BK194.out 0; have hfz22_1 := blk_frozen BK194.out 1) | ((with_reducible refine gate_callee (f := 57) rfl ?_); refine goesL_ (some 18) rfl rfl Try.func57 (by kernel_rfl) rfl #[.pointer (some ⟨g, 0, none⟩), .agg #[.int .i16 ((rd_T60 t190 x12_1).f0), .int .i16 ((rd_T60 t190 x12_1).f1)]] rfl (by (try simp only [List.map_toArray, List.map_cons, List.map_nil]); first | done | rfl | (simp only [List.length_drop, List.length_take]; rfl)) ?_; (with_reducible refine (impl_Plate_ink.calls g x1000_1 ((rd_T60 t190 x12_1).f0) ((rd_T60 t190 x12_1).f1) t195 w0 _ ?side1 ?side2 A17.out).mono ?_); (case side1 => repeat (first | (with_reducible first | exact HI0.out | apply IsS26.alloc | apply IsS26.drewN | apply IsS26.drew | apply IsS26.set_0 | refine IsS26.far ?_ NB0_188.out _ | refine IsS26.far ?_ NB0_189.out _ | refine IsS26.far ?_ NB0_194.out _) | exact HI0.out)); (case side2 => repeat (first | (with_reducible first | exact HB.out | apply below_alloc | apply pw_below_drewN | apply below_drew1 | refine below_set ?_ (IsS26.ge HI0.out) | refine below_set ?_ GE188.out | refine below_set ?_ GE189.out | refine below_set ?_ GE194.out) | exact HB.out)); rintro e w23 ⟨rfl, hi, hb, hk⟩; refine ⟨_, rfl, ?_⟩; have n0_ := Aside0.mk (Kd.R_mono (Kd.R_keep (IsS26.apart (show IsS26 w0 _ g x1000_1 from by repeat (first | (with_reducible first | exact HI0.out | apply IsS26.alloc | apply IsS26.drewN | apply IsS26.drew | apply IsS26.set_0 | refine IsS26.far ?_ NB0_188.out _ | refine IsS26.far ?_ NB0_189.out _ | refine IsS26.far ?_ NB0_194.out _) | exact HI0.out | (simp only [Int.add_zero]))) (by (with_reducible repeat (first | apply Kd.R_alloc | apply Kd.R_drewN | apply Kd.R_drew)); exact (Kd.R_mono (Kd.R_far (p := ⟨gb194, 1, none⟩) (Kd.R_far (p := ⟨gb194, 0, none⟩) (Kd.R_mono HO_10.out (fun k_ hk => (⟨hk, hk.2⟩ : _ ∧ k_ ≠ gb194))) (fun _ hk => hk.2) (.int .i16 ((rd_T60 t190 x12_1).f0))) (fun _ hk => hk.2) (.int .i16 ((rd_T60 t190 x12_1).f1))) (fun _ h_ => h_.1))) (by decide)) hk (fun _ h => h.2)) (fun _ h => h.1)); have n1_ := Aside0.mk (KeepBut.blk hk (g' := gb188) (o := .cells #[.int .i16 a1_0, .int .i16 a1_1] 60 (0, 0)) (by (with_reducible repeat (first | refine blk_drewN ?_ _ | refine blk_drew ?_ | refine blk_alloc ?_ _)); refine blk_far ?_ NB188_194.out _; (with_reducible repeat (first | refine blk_drewN ?_ _ | refine blk_drew ?_ | refine blk_alloc ?_ _)); refine blk_far ?_ NB188_194.out _; (with_reducible repeat (first | refine blk_drewN ?_ _ | refine blk_drew ?_ | refine blk_alloc ?_ _)); exact BK188.out) NB188_0.out (by simp)); have n2_ := Aside0.mk (KeepBut.blk hk (g' := gb189) (o := .cells #[.int .i16 a2_0, .int .i16 a2_1] 60 (0, 0)) (by (with_reducible repeat (first | refine blk_drewN ?_ _ | refine blk_drew ?_ | refine blk_alloc ?_ _)); refine blk_far ?_ NB189_194.out _; (with_reducible repeat (first | refine blk_drewN ?_ _ | refine blk_drew ?_ | refine blk_alloc ?_ _)); refine blk_far ?_ NB189_194.out _; (with_reducible repeat (first | refine blk_drewN ?_ _ | refine blk_drew ?_ | refine blk_alloc ?_ _)); exact BK189.out) NB189_0.out (by simp)); have n3_ := Aside0.mk (KeepBut.blk hk (g' := gb194) (o := .cells #[.int .i16 ((rd_T60 t190 x12_1).f0), .int .i16 ((rd_T60 t190 x12_1).f1)] 60 (0, 0)) (by (with_reducible repeat (first | refine blk_drewN ?_ _ | refine blk_drew ?_ | refine blk_alloc ?_ _)); refine blk_put (cs := #[.int .i16 ((rd_T60 t190 x12_1).f0), .int .i16 0]) ?_ 1 _ rfl; (with_reducible repeat (first | refine blk_drewN ?_ _ | refine blk_drew ?_ | refine blk_alloc ?_ _)); refine blk_put (cs := #[.int .i16 0, .int .i16 0]) ?_ 0 _ rfl; (with_reducible repeat (first | refine blk_drewN ?_ _ | refine blk_drew ?_ | refine blk_alloc ?_ _)); exact BK194.out) NB194_0.out (by simp)); have n4_ := Aside0.mk (KeepBut.trans (by repeat (first | (with_reducible first | exact HK.out | apply KeepBut.set_ | apply keep_drewN | apply keep_drew | apply keep_alloc | refine keep_far ?_ GW188.out _ | refine keep_far ?_ GW189.out _ | refine keep_far ?_ GW194.out _) | exact HK.out)) hk (.inl rfl)); have n5_ := Aside0.mk (hb); have n6_ := Aside0.mk (hi); clear HO_10; clear BK188; clear BK189; clear BK194; clear HK; clear HB; clear HI0; have HO_10 := n0_; have BK188 := n1_; have BK189 := n2_; have BK194 := n3_; have HK := n4_; have HB := n5_; have HI0 := n6_; clear n0_ n1_ n2_ n3_ n4_ n5_ n6_; (try clear hb); (try clear hb2); (try clear hk); (try clear hi)))
            go_roundg k1
            case measure => have := HK1.out; omega
            case rel => exact ⟨(wrap64 (x12_1 + 1)), (t195), (by first | rfl | (simp; done) | (simp [*]; done)), H', ⟨by have := HK1.out; omega⟩, ⟨by (with_reducible repeat (first | apply Kd.R_alloc | apply Kd.R_drewN | apply Kd.R_drew)); exact Kd.R_mono HO_10.out (fun _ hk => ⟨hk.1.1, hk.1.2⟩)⟩, ⟨by (with_reducible repeat (first | refine blk_drewN ?_ _ | refine blk_drew ?_ | refine blk_alloc ?_ _)); exact BK188.out⟩, ⟨by (with_reducible repeat (first | refine blk_drewN ?_ _ | refine blk_drew ?_ | refine blk_alloc ?_ _)); exact BK189.out⟩, ⟨by repeat (first | (with_reducible first | exact HI0.out | apply IsS26.alloc | apply IsS26.drewN | apply IsS26.drew | apply IsS26.set_0 | refine IsS26.far ?_ NB0_188.out _ | refine IsS26.far ?_ NB0_189.out _ | refine IsS26.far ?_ NB0_194.out _) | exact HI0.out | (simp only [Int.add_zero]))⟩, ⟨by repeat (first | (with_reducible first | exact HK.out | apply KeepBut.set_ | apply keep_drewN | apply keep_drew | apply keep_alloc | refine keep_far ?_ GW188.out _ | refine keep_far ?_ GW189.out _ | refine keep_far ?_ GW194.out _) | exact HK.out)⟩, ⟨by repeat (first | (with_reducible first | exact HB.out | apply below_alloc | apply pw_below_drewN | apply below_drew1 | refine below_set ?_ (IsS26.ge HI0.out) | refine below_set ?_ GE188.out | refine below_set ?_ GE189.out | refine below_set ?_ GE194.out) | exact HB.out)⟩⟩
          · rw [if_neg c16] at H
            exact absurd H (by simp)
        · rw [if_neg c15] at H
          exact absurd H (by simp)
      · rw [if_neg c14] at H
        have c14b0 : decide (x12_1 < (t190.length : Int)) = false := decide_eq_false c14
        clear c14
        obtain rfl := Option.some.inj H
        go_wp2
        first | go_end0 | ((try simp only [Exit.inBlock, Exit.then]); refine bodyPost_ret (results_none rfl _ _ _) rfl ?_)
        exact ⟨by first | rfl | (simp [errW_none, errW_some] <;> rfl) | (simp [*, errW_none, errW_some] <;> rfl), by repeat (first | (with_reducible first | exact HI0.out | apply IsS26.alloc | apply IsS26.drewN | apply IsS26.drew | apply IsS26.set_0 | refine IsS26.far ?_ NB0_188.out _ | refine IsS26.far ?_ NB0_189.out _) | exact HI0.out | (simp only [Int.add_zero])), by repeat (first | (with_reducible first | exact HB.out | apply below_alloc | apply pw_below_drewN | apply below_drew1 | refine below_set ?_ (IsS26.ge HI0.out) | refine below_set ?_ GE188.out | refine below_set ?_ GE189.out) | exact HB.out), by repeat (first | (with_reducible first | exact HK.out | apply KeepBut.set_ | apply keep_drewN | apply keep_drew | apply keep_alloc | refine keep_far ?_ GW188.out _ | refine keep_far ?_ GW189.out _) | exact HK.out)⟩

/-! ### impl_DrawStrokes: function 9 -/
mutual
def impl_DrawStrokes.l0 : Nat → List (List (S60)) → Int → Int → List Int → Option (List Int × Int)
  | 0, _, _, _, _ => none
  | k + 1, x17, x18, x19, x213000 => if x19 < x18 then (if 0 ≤ x19 then (if x19 < (x17.length : Int) then (impl_DrawStrokes.l1 k (rd_L4 x17 x19) x17 x18 x19 (rd_L4 x17 x19) ((rd_L4 x17 x19).length : Int) 0 x213000) else (none)) else (none)) else (some (x213000, 0))
def impl_DrawStrokes.l1 : Nat → List (S60) → List (List (S60)) → Int → Int → List (S60) → Int → Int → List Int → Option (List Int × Int)
  | 0, _, _, _, _, _, _, _, _ => none
  | k + 1, x7, x17, x18, x19, x23, x24, x25, x213000 => if x25 < x24 then (if 0 ≤ x25 then (if x25 < (x23.length : Int) then (if 0 ≤ (mx (wrap64 (x25 - 1)) 0) then (if (mx (wrap64 (x25 - 1)) 0) < (x7.length : Int) then ((impl_Plate_line.f k x213000 ((rd_T60 x7 (mx (wrap64 (x25 - 1)) 0)).f0) ((rd_T60 x7 (mx (wrap64 (x25 - 1)) 0)).f1) ((rd_T60 x23 x25).f0) ((rd_T60 x23 x25).f1)).bind fun t217 => (impl_DrawStrokes.l1 k x7 x17 x18 x19 x23 x24 (wrap64 (x25 + 1)) t217)) else (none)) else (none)) else (none)) else (none)) else (impl_DrawStrokes.l0 k x17 x18 (wrap64 (x19 + 1)) x213000)
end
def impl_DrawStrokes.f (k : Nat) (l0 : List (List (S60))) : Option (List Int × Int) := (impl_strokesCode.f k l0).bind fun t210 => (if t210 = 0 then ((plate_new.f).bind fun t211 => (impl_DrawStrokes.l0 k l0 (l0.length : Int) 0 t211)) else (some (pl0_, t210)))
theorem impl_DrawStrokes.mono_l : ∀ k, (∀ y0 y1 y2 y3, LeO (impl_DrawStrokes.l0 k y0 y1 y2 y3) (impl_DrawStrokes.l0 (k + 1) y0 y1 y2 y3)) ∧ (∀ y0 y1 y2 y3 y4 y5 y6 y7, LeO (impl_DrawStrokes.l1 k y0 y1 y2 y3 y4 y5 y6 y7) (impl_DrawStrokes.l1 (k + 1) y0 y1 y2 y3 y4 y5 y6 y7))
  | 0 => ⟨fun _ _ _ _ r h => by simp [impl_DrawStrokes.l0] at h, fun _ _ _ _ _ _ _ _ r h => by simp [impl_DrawStrokes.l1] at h⟩
  | k + 1 => by
    obtain ⟨ih0, ih1⟩ := impl_DrawStrokes.mono_l k
    refine ⟨?_, ?_⟩
    · intro y0 y1 y2 y3
      unfold impl_DrawStrokes.l0
      repeat' first
      | (with_reducible exact ih0 _ _ _ _)
      | (with_reducible exact ih1 _ _ _ _ _ _ _ _)
      | (with_reducible exact impl_Plate_line.mono _ _ _ _ _ _)
      | (with_reducible exact impl_strokesCode.mono _ _)
      | (with_reducible exact LeO.refl _)
      | (with_reducible exact LeO.none _)
      | (with_reducible refine LeO.ite ?_ ?_)
      | (with_reducible refine LeO.bind ?_ (fun _ => ?_))
      | exact ih0 _ _ _ _
      | exact ih1 _ _ _ _ _ _ _ _
      | exact impl_Plate_line.mono _ _ _ _ _ _
      | exact impl_strokesCode.mono _ _
      | exact LeO.none _
      | refine LeO.ite ?_ ?_
      | refine LeO.bind ?_ (fun _ => ?_)
    · intro y0 y1 y2 y3 y4 y5 y6 y7
      unfold impl_DrawStrokes.l1
      repeat' first
      | (with_reducible exact ih0 _ _ _ _)
      | (with_reducible exact ih1 _ _ _ _ _ _ _ _)
      | (with_reducible exact impl_Plate_line.mono _ _ _ _ _ _)
      | (with_reducible exact impl_strokesCode.mono _ _)
      | (with_reducible exact LeO.refl _)
      | (with_reducible exact LeO.none _)
      | (with_reducible refine LeO.ite ?_ ?_)
      | (with_reducible refine LeO.bind ?_ (fun _ => ?_))
      | exact ih0 _ _ _ _
      | exact ih1 _ _ _ _ _ _ _ _
      | exact impl_Plate_line.mono _ _ _ _ _ _
      | exact impl_strokesCode.mono _ _
      | exact LeO.none _
      | refine LeO.ite ?_ ?_
      | refine LeO.bind ?_ (fun _ => ?_)
theorem impl_DrawStrokes.mono : ∀ a0 k, LeO (impl_DrawStrokes.f k a0) (impl_DrawStrokes.f (k + 1) a0) := by
  intro a0 k
  obtain ⟨ih0, ih1⟩ := impl_DrawStrokes.mono_l k
  unfold impl_DrawStrokes.f
  repeat' first
      | (with_reducible exact ih0 _ _ _ _)
      | (with_reducible exact ih1 _ _ _ _ _ _ _ _)
      | (with_reducible exact impl_Plate_line.mono _ _ _ _ _ _)
      | (with_reducible exact impl_strokesCode.mono _ _)
      | (with_reducible exact LeO.refl _)
      | (with_reducible exact LeO.none _)
      | (with_reducible refine LeO.ite ?_ ?_)
      | (with_reducible refine LeO.bind ?_ (fun _ => ?_))
      | exact ih0 _ _ _ _
      | exact ih1 _ _ _ _ _ _ _ _
      | exact impl_Plate_line.mono _ _ _ _ _ _
      | exact impl_strokesCode.mono _ _
      | exact LeO.none _
      | refine LeO.ite ?_ ?_
      | refine LeO.bind ?_ (fun _ => ?_)
def impl_DrawStrokes.T11 : Bool × List (List Nat × List Nat) := (true, [([], []), ([], []), ([1], [1]), ([2], [2]), ([0, 3], [0, 3]), ([4], [4]), ([], []), ([5, 6], [5, 6])])
def impl_DrawStrokes.B11 : List Nat := [0, 0, 2, 6, 15, 31, 0, 127]
theorem impl_DrawStrokes.tab11 : rtab .any (opsOf Try.f9 11) = impl_DrawStrokes.T11 := by kernel_rfl
theorem impl_DrawStrokes.bits11 : waitsOk impl_DrawStrokes.T11.2 impl_DrawStrokes.B11 = true := by kernel_rfl
set_option maxHeartbeats 8000000 in
set_option maxRecDepth 100000 in
theorem impl_DrawStrokes.calls (k : Nat) (A0 : Option Addr) (c0 : Nat) (l0 : List (List (S60))) (r1 : List Int) (r2 : Int) (w : World) (hr0 : Kd.C (Kd.slice 60 k60) w A0 l0.length l0) (hc0 : l0.length ≤ c0) (h : impl_DrawStrokes.f k l0 = some (r1, r2)) :
    Calls Try.prog 9 #[.slice A0 l0.length c0] w fun e w' => e = .returned (.tuple #[.agg (plA r1), .int .i64 r2]) ∧ Below w.heap.size w w' := by
  have hu26 := Try.underlying26
  have hu60 := Try.underlying60
  have HR0 := Aside0.mk hr0
  have HC0 := Aside0.mk hc0
  clear hr0 hc0
  have HB := Aside0.mk (Below.refl w.heap.size w)
  have H : ((impl_strokesCode.f k l0).bind fun t210 => (if t210 = 0 then ((plate_new.f).bind fun t211 => (impl_DrawStrokes.l0 k l0 (l0.length : Int) 0 t211)) else (some (pl0_, t210)))) = some (r1, r2) := h
  clear h
  replace H := Option.bind_eq_some_iff.mp H
  obtain ⟨t210, A20, H⟩ := H
  replace H : (if t210 = 0 then ((plate_new.f).bind fun t211 => (impl_DrawStrokes.l0 k l0 (l0.length : Int) 0 t211)) else (some (pl0_, t210))) = some (r1, r2) := H
  have A2 := Aside0.mk A20
  clear A20
  by_cases c3 : t210 = 0
  · rw [if_pos c3] at H
    have c3b0 : (t210 == 0) = true := beq_iff_eq.mpr c3
    have c3b1 : (t210 != 0) = false := bne_eq_false_iff_eq.mpr c3
    clear c3
    replace H := Option.bind_eq_some_iff.mp H
    obtain ⟨t211, A40, H⟩ := H
    replace H : (impl_DrawStrokes.l0 k l0 (l0.length : Int) 0 t211) = some (r1, r2) := H
    have A4 := Aside0.mk A40
    clear A40
    have H' := Aside0.mk H
    clear H
    have E4 := Aside0.mk (show t211 = pl0_ from (Option.some.inj (show some pl0_ = some t211 from A4.out)).symm)
    go_enter Try.func9, Try.ntmps9
    go_wp2_with (first | ((with_reducible refine gate_dst (N := 2) rfl ?_); refine box_event ?hg (N := 2) ?hd (cs := plA pl0_) (t := 26) ?hr ?_; (case hd => rfl); (case hg => rfl); (case hr => first | (go_simp; done) | (go_simp; rfl)); intro gb2 hg w3 hbox hb; have n0_ := Aside0.mk (below_step HB.out hb); have BK2 := Aside0.mk hbox; have GE2 := Aside0.mk (show w.heap.size ≤ gb2 from by rw [hg]; exact below_size HB.out); clear HB; have HB := n0_; clear n0_ hb hbox hg) | ((with_reducible refine gate_callee (f := 28) rfl ?_); refine goesL_ (some 11) rfl rfl Try.func28 (by kernel_rfl) rfl #[.slice A0 l0.length c0] rfl (by (try simp only [List.map_toArray, List.map_cons, List.map_nil]); first | done | rfl | (simp only [List.length_drop, List.length_take]; rfl)) ?_; (with_reducible refine (impl_strokesCode.calls k _ _ l0 t210 _ ?side1 ?side2 A2.out).mono ?_); (case side1 => repeat (first | exact (Kd.C_below HR0.out HB.out) | (with_reducible refine Kd.C_alloc ?_ _) | (with_reducible refine Kd.C_drewN ?_ _) | (with_reducible refine Kd.C_drew ?_))); (case side2 => exact HC0.out); rintro e w5 ⟨rfl, hb⟩; refine ⟨_, rfl, ?_⟩; have nb_ := Aside0.mk (blk_below BK2.out hb); clear BK2; have BK2 := nb_; clear nb_; have n0_ := Aside0.mk (below_step (by repeat (first | (with_reducible first | exact HB.out | apply below_alloc | apply pw_below_drewN | apply below_drew1) | exact HB.out)) hb); clear HB; have HB := n0_; clear n0_; (try clear hb); (try clear hb2); (try clear hk); (try clear hi)) | ((with_reducible refine gate_dst (N := 5) rfl ?_); refine box_event ?hg (N := 5) ?hd (cs := plA pl0_) (t := 26) ?hr ?_; (case hd => rfl); (case hg => rfl); (case hr => first | (go_simp; done) | (go_simp; rfl)); intro g212 hg wA hbox hb; have n0_ := Aside0.mk (below_step HB.out hb); have nb_ := Aside0.mk (blk_below BK2.out hb); have BK5 := Aside0.mk hbox; have GE5 := Aside0.mk (show w.heap.size ≤ g212 from by rw [hg]; exact below_size HB.out); have NE5 := Aside0.mk (show gb2 ≠ g212 from by rw [hg]; exact Nat.ne_of_lt (blk_lt BK2.out)); clear HB BK2; have HB := n0_; have BK2 := nb_; clear n0_ nb_ hb hbox hg) | ((with_reducible refine gate_store (t := 26) (p := 5) rfl ?_); refine pl_store (p := 5) (v := ?vv5) (g := g212) (x := pl0_) ?hg ?ho ?hn ?hp ?hv BK5.out (plA_size _) (by kernel_rfl) ?_; (case ho => rfl); (case hg => rfl); (case hn => rfl); (case hp => rfl); (case hv => rfl); intro w6 hw; have HI212 := Aside0.mk (show IsP2 gb2 w w6 g212 t211 from by rw [hw, E4.out]; exact ⟨⟨blk_putP BK5.out _, GE5.out⟩, blk_farP BK2.out NE5.out _, NE5.out, GE2.out⟩); have n0_ := Aside0.mk (show Below w.heap.size w w6 from by rw [hw]; exact below_setP HB.out GE5.out); clear HB; have HB := n0_; clear n0_ hw BK5 BK2))
    go_loopg [19] k (fun kq v19 w' => ∃ (x19_1 : Int) (x213000_1 : List Int), v19 = .int .i64 x19_1 ∧ Aside0 (impl_DrawStrokes.l0 kq l0 (l0.length : Int) x19_1 x213000_1 = some (r1, r2)) ∧ Aside0 (kq ≤ k) ∧ Aside0 (IsP2 gb2 w w' g212 x213000_1) ∧ Aside0 (Below w.heap.size w w'))
    case atStart => exact ⟨(0), (t211), (by first | rfl | (simp; done) | (simp [*]; done)), H', ⟨Nat.le_refl _⟩, ⟨by repeat (first | (with_reducible first | exact HI212.out | apply IsP2.alloc | apply IsP2.drewN | apply IsP2.drew) | exact HI212.out | (simp only [Int.add_zero]))⟩, ⟨by repeat (first | (with_reducible first | exact HB.out | apply below_alloc | apply pw_below_drewN | apply below_drew1 | refine below_set ?_ (IsP2.ge HI212.out)) | exact HB.out)⟩⟩
    case round =>
      clear H'
      try clear c1
      try clear c2
      try clear p2
      try clear c3
      try clear c3b0
      try clear c3b1
      obtain ⟨x19_1, x213000_1, rfl, HA, HK1, HI212, HB⟩ := hrel
      cases gk with
      | zero => exact absurd HA.out (by simp [impl_DrawStrokes.l0])
      | succ k1 =>
        have H := HA.out
        clear HA
        simp only [impl_DrawStrokes.l0] at H
        by_cases c7 : x19_1 < (l0.length : Int)
        · rw [if_pos c7] at H
          have c7b0 : decide (x19_1 < (l0.length : Int)) = true := decide_eq_true c7
          clear c7
          by_cases c8 : 0 ≤ x19_1
          · rw [if_pos c8] at H
            have c8b0 : decide (0 ≤ x19_1) = true := decide_eq_true c8
            clear c8
            by_cases c9 : x19_1 < (l0.length : Int)
            · rw [if_pos c9] at H
              have c9b0 : decide (x19_1 < (l0.length : Int)) = true := decide_eq_true c9
              clear c9
              have H' := Aside0.mk H
              clear H
              have p213 : 0 ≤ (x19_1 : Int) := of_decide_eq_true (by first | (with_reducible assumption) | assumption)
              have q213 : x19_1 < (l0.length : Int) := of_decide_eq_true (by first | (with_reducible assumption) | assumption)
              obtain ⟨ad213, A213_0, c213_0, e213, hx213_0, hl213_0, hi213_0⟩ := at_L4 HR0.out x19_1 p213 q213
              cases e213
              replace hx213_0 := (HB.out.cell (World.block_lt_of_cell? w _ hx213_0)).trans hx213_0
              have HR213_0 := Aside0.mk hi213_0
              have HC213_0 := Aside0.mk hl213_0
              clear hi213_0 hl213_0
              replace p213 := eq_true p213
              replace q213 := eq_true q213
              go_wp2
              go_loopg [25] k1 (fun kq v25 w' => ∃ (x25_2 : Int) (x213000_2 : List Int), v25 = .int .i64 x25_2 ∧ Aside0 (impl_DrawStrokes.l1 kq (rd_L4 l0 x19_1) l0 (l0.length : Int) x19_1 (rd_L4 l0 x19_1) ((rd_L4 l0 x19_1).length : Int) x25_2 x213000_2 = some (r1, r2)) ∧ Aside0 (kq ≤ k1) ∧ Aside0 (IsP2 gb2 w w' g212 x213000_2) ∧ Aside0 (Below w.heap.size w w'))
              case atStart => exact ⟨(0), (x213000_1), (by first | rfl | (simp; done) | (simp [*]; done)), H', ⟨Nat.le_refl _⟩, ⟨by repeat (first | (with_reducible first | exact HI212.out | apply IsP2.alloc | apply IsP2.drewN | apply IsP2.drew) | exact HI212.out | (simp only [Int.add_zero]))⟩, ⟨by repeat (first | (with_reducible first | exact HB.out | apply below_alloc | apply pw_below_drewN | apply below_drew1 | refine below_set ?_ (IsP2.ge HI212.out)) | exact HB.out)⟩⟩
              case round =>
                clear H'
                try clear c1
                try clear c2
                try clear p2
                try clear q2
                try clear hx2
                try clear c3
                try clear c3b0
                try clear c3b1
                try clear c7
                try clear c7b0
                try clear c8
                try clear c8b0
                try clear c9
                try clear c9b0
                try clear hx213_0
                try clear p2
                try clear p213
                try clear q213
                obtain ⟨x25_2, x213000_2, rfl, HA, HK2, HI212, HB⟩ := hrel
                cases gk with
                | zero => exact absurd HA.out (by simp [impl_DrawStrokes.l1])
                | succ k2 =>
                  have H := HA.out
                  clear HA
                  simp only [impl_DrawStrokes.l1] at H
                  by_cases c10 : x25_2 < ((rd_L4 l0 x19_1).length : Int)
                  · rw [if_pos c10] at H
                    have c10b0 : decide (x25_2 < ((rd_L4 l0 x19_1).length : Int)) = true := decide_eq_true c10
                    clear c10
                    by_cases c11 : 0 ≤ x25_2
                    · rw [if_pos c11] at H
                      have c11b0 : decide (0 ≤ x25_2) = true := decide_eq_true c11
                      clear c11
                      by_cases c12 : x25_2 < ((rd_L4 l0 x19_1).length : Int)
                      · rw [if_pos c12] at H
                        have c12b0 : decide (x25_2 < ((rd_L4 l0 x19_1).length : Int)) = true := decide_eq_true c12
                        clear c12
                        obtain ⟨ji13, hji13⟩ : ∃ j_ : Int, (mx (wrap64 (x25_2 - 1)) 0) = j_ := ⟨_, rfl⟩
                        replace H : (if 0 ≤ (ji13) then (if (ji13) < ((rd_L4 l0 x19_1).length : Int) then ((impl_Plate_line.f k2 x213000_2 ((rd_T60 (rd_L4 l0 x19_1) (ji13)).f0) ((rd_T60 (rd_L4 l0 x19_1) (ji13)).f1) ((rd_T60 (rd_L4 l0 x19_1) x25_2).f0) ((rd_T60 (rd_L4 l0 x19_1) x25_2).f1)).bind fun t217 => (impl_DrawStrokes.l1 k2 (rd_L4 l0 x19_1) l0 (l0.length : Int) x19_1 (rd_L4 l0 x19_1) ((rd_L4 l0 x19_1).length : Int) (wrap64 (x25_2 + 1)) t217)) else (none)) else (none)) = some (r1, r2) := by first | (rw [hji13] at H; exact H) | (simp only [hji13] at H ⊢; exact H)
                        have hji13_ : (if (wrap64 (x25_2 - 1)) < 0 then 0 else (wrap64 (x25_2 - 1))) = ji13 := hji13
                        by_cases c14 : 0 ≤ (ji13)
                        · rw [if_pos c14] at H
                          have c14b0 : decide (0 ≤ (ji13)) = true := decide_eq_true c14
                          clear c14
                          by_cases c15 : (ji13) < ((rd_L4 l0 x19_1).length : Int)
                          · rw [if_pos c15] at H
                            have c15b0 : decide ((ji13) < ((rd_L4 l0 x19_1).length : Int)) = true := decide_eq_true c15
                            clear c15
                            replace H := Option.bind_eq_some_iff.mp H
                            obtain ⟨t217, A160, H⟩ := H
                            replace H : (impl_DrawStrokes.l1 k2 (rd_L4 l0 x19_1) l0 (l0.length : Int) x19_1 (rd_L4 l0 x19_1) ((rd_L4 l0 x19_1).length : Int) (wrap64 (x25_2 + 1)) t217) = some (r1, r2) := H
                            have A16 := Aside0.mk A160
                            clear A160
                            have H' := Aside0.mk H
                            clear H
                            have p214 : 0 ≤ (x25_2 : Int) := of_decide_eq_true (by first | (with_reducible assumption) | assumption)
                            have q214 : x25_2 < ((rd_L4 l0 x19_1).length : Int) := of_decide_eq_true (by first | (with_reducible assumption) | assumption)
                            obtain ⟨ad214, e214, hx214_0, hx214_1⟩ := at_T60 HR213_0.out x25_2 p214 q214
                            cases e214
                            replace hx214_0 := (HB.out.cell (World.block_lt_of_cell? w _ hx214_0)).trans hx214_0
                            replace hx214_1 := (HB.out.cell (World.block_lt_of_cell? w _ hx214_1)).trans hx214_1
                            replace p214 := eq_true p214
                            replace q214 := eq_true q214
                            try go_wp2_with (first | ((with_reducible refine gate_dst (N := 9) rfl ?_); refine box_event ?hg (N := 9) ?hd (cs := #[.int .i16 0, .int .i16 0]) (t := 60) ?hr ?_; (case hd => rfl); (case hg => rfl); (case hr => first | (go_simp; done) | (go_simp; rfl)); intro gb215 hg w17 hbox hb; have n0_ := Aside0.mk (IsP2.below (by repeat (first | (with_reducible first | exact HI212.out | apply IsP2.alloc | apply IsP2.drewN | apply IsP2.drew) | exact HI212.out | (simp only [Int.add_zero]))) hb); have n1_ := Aside0.mk (below_step (by repeat (first | (with_reducible first | exact HB.out | apply below_alloc | apply pw_below_drewN | apply below_drew1 | refine below_set ?_ (IsP2.ge HI212.out)) | exact HB.out)) hb); have n2_ := Aside0.mk (hbox); have n3_ := Aside0.mk ((by rw [hg]; exact (below_size (by repeat (first | (with_reducible first | exact HB.out | apply below_alloc | apply pw_below_drewN | apply below_drew1 | refine below_set ?_ (IsP2.ge HI212.out)) | exact HB.out))) : w.heap.size ≤ gb215)); have n4_ := Aside0.mk ((by rw [hg]; exact (below_size (by repeat (first | (with_reducible first | exact HB.out | apply below_alloc | apply pw_below_drewN | apply below_drew1 | refine below_set ?_ (IsP2.ge HI212.out)) | exact HB.out))) : w.heap.size ≤ gb215)); have n5_ := Aside0.mk ((by rw [hg]; exact (IsP2.ne_lt (show IsP2 gb2 w _ g212 x213000_2 from by repeat (first | (with_reducible first | exact HI212.out | apply IsP2.alloc | apply IsP2.drewN | apply IsP2.drew) | exact HI212.out | (simp only [Int.add_zero])))) : g212 ≠ gb215 ∧ gb2 ≠ gb215)); have n6_ := Aside0.mk ((by rw [hg]; exact Nat.ne_of_gt (IsP2.lt (show IsP2 gb2 w _ g212 x213000_2 from by repeat (first | (with_reducible first | exact HI212.out | apply IsP2.alloc | apply IsP2.drewN | apply IsP2.drew) | exact HI212.out | (simp only [Int.add_zero])))) : gb215 ≠ g212)); clear HI212; clear HB; have HI212 := n0_; have HB := n1_; have BK215 := n2_; have GW215 := n3_; have GE215 := n4_; have NB212_215 := n5_; have NB215_212 := n6_; clear n0_ n1_ n2_ n3_ n4_ n5_ n6_; clear hb hbox hg; have hnb18 := NB215_212.out; have hnc18 := NB212_215.out; have hcz19_0 : w17.cell? ⟨gb215, 0, none⟩ = some (.int .i16 0) := (blk_cell BK215.out 0).trans rfl; have hcz19_1 : w17.cell? ⟨gb215, 1, none⟩ = some (.int .i16 0) := (blk_cell BK215.out 1).trans rfl; have hfz19_0 := blk_frozen BK215.out 0; have hfz19_1 := blk_frozen BK215.out 1))
                            have n0_ : Aside0 (((w17.setCell ⟨gb215, 0, none⟩ (.int .i16 ((rd_T60 (rd_L4 l0 x19_1) x25_2).f0))).setCell ⟨gb215, 1, none⟩ (.int .i16 ((rd_T60 (rd_L4 l0 x19_1) x25_2).f1))).heap[gb215]? = some (.cells #[.int .i16 ((rd_T60 (rd_L4 l0 x19_1) x25_2).f0), .int .i16 ((rd_T60 (rd_L4 l0 x19_1) x25_2).f1)] 60 (0, 0))) := ⟨by (with_reducible repeat (first | refine blk_drewN ?_ _ | refine blk_drew ?_ | refine blk_alloc ?_ _)); refine blk_put (cs := #[.int .i16 ((rd_T60 (rd_L4 l0 x19_1) x25_2).f0), .int .i16 0]) ?_ 1 _ rfl; (with_reducible repeat (first | refine blk_drewN ?_ _ | refine blk_drew ?_ | refine blk_alloc ?_ _)); refine blk_put (cs := #[.int .i16 0, .int .i16 0]) ?_ 0 _ rfl; (with_reducible repeat (first | refine blk_drewN ?_ _ | refine blk_drew ?_ | refine blk_alloc ?_ _)); exact BK215.out⟩
                            have n1_ : Aside0 (IsP2 gb2 w ((w17.setCell ⟨gb215, 0, none⟩ (.int .i16 ((rd_T60 (rd_L4 l0 x19_1) x25_2).f0))).setCell ⟨gb215, 1, none⟩ (.int .i16 ((rd_T60 (rd_L4 l0 x19_1) x25_2).f1))) g212 x213000_2) := ⟨by repeat (first | (with_reducible first | exact HI212.out | apply IsP2.alloc | apply IsP2.drewN | apply IsP2.drew | refine IsP2.far ?_ NB212_215.out _) | exact HI212.out | (simp only [Int.add_zero]))⟩
                            have n2_ : Aside0 (Below w.heap.size w ((w17.setCell ⟨gb215, 0, none⟩ (.int .i16 ((rd_T60 (rd_L4 l0 x19_1) x25_2).f0))).setCell ⟨gb215, 1, none⟩ (.int .i16 ((rd_T60 (rd_L4 l0 x19_1) x25_2).f1)))) := ⟨by repeat (first | (with_reducible first | exact HB.out | apply below_alloc | apply pw_below_drewN | apply below_drew1 | refine below_set ?_ (IsP2.ge HI212.out) | refine below_set ?_ GE215.out) | exact HB.out)⟩
                            (try clear BK215)
                            (try clear HI212)
                            (try clear HB)
                            generalize ((w17.setCell ⟨gb215, 0, none⟩ (.int .i16 ((rd_T60 (rd_L4 l0 x19_1) x25_2).f0))).setCell ⟨gb215, 1, none⟩ (.int .i16 ((rd_T60 (rd_L4 l0 x19_1) x25_2).f1))) = w20 at n0_ n1_ n2_ ⊢
                            have BK215 := n0_
                            have HI212 := n1_
                            have HB := n2_
                            clear n0_ n1_ n2_
                            have n0_ := Aside0.mk (blk_drew BK215.out)
                            have n1_ := Aside0.mk (IsP2.drew HI212.out)
                            have n2_ := Aside0.mk (below_drew1 HB.out)
                            clear BK215
                            clear HI212
                            clear HB
                            have BK215 := n0_
                            have HI212 := n1_
                            have HB := n2_
                            clear n0_ n1_ n2_
                            have p216 : 0 ≤ ((ji13) : Int) := of_decide_eq_true (by first | (with_reducible assumption) | assumption)
                            have q216 : (ji13) < ((rd_L4 l0 x19_1).length : Int) := of_decide_eq_true (by first | (with_reducible assumption) | assumption)
                            obtain ⟨ad216, e216, hx216_0, hx216_1⟩ := at_T60 HR213_0.out (ji13) p216 q216
                            have hw216_1 := hx216_1
                            have hw216_0 := hx216_0
                            obtain rfl : ad214 = ad216 := (by injection e216)
                            replace hx216_0 := (HB.out.cell (World.block_lt_of_cell? w _ hx216_0)).trans hx216_0
                            replace hx216_1 := (HB.out.cell (World.block_lt_of_cell? w _ hx216_1)).trans hx216_1
                            replace p216 := eq_true p216
                            replace q216 := eq_true q216
                            refine start_ (n := 8) (S := fun w' => w'.cell? ⟨gb215, 0, none⟩ = some (.int .i16 ((rd_T60 (rd_L4 l0 x19_1) x25_2).f0)) ∧ w'.cell? ⟨gb215, 1, none⟩ = some (.int .i16 ((rd_T60 (rd_L4 l0 x19_1) x25_2).f1)) ∧ w'.cell? (ad214.add (((ji13)).toNat * 2)) = some (.int .i16 ((rd_T60 (rd_L4 l0 x19_1) (ji13)).f0)) ∧ w'.cell? ⟨(ad214.add (((ji13)).toNat * 2)).block, (ad214.add (((ji13)).toNat * 2)).off + 1, none⟩ = some (.int .i16 ((rd_T60 (rd_L4 l0 x19_1) (ji13)).f1))) (ds := []) #[false, false, false, false, false, false, false, false] (by kernel_rfl) rfl rfl ⟨(blk_cell BK215.out 0).trans rfl, (blk_cell BK215.out 1).trans rfl, (by first | exact ((HB.out.cell (World.block_lt_of_cell? w _ hw216_0)).trans hw216_0) | exact ((HB.out.cell (World.block_lt_of_cell? w _ hv216_0)).trans hv216_0) | exact hx216_0), (by first | exact ((HB.out.cell (World.block_lt_of_cell? w _ hw216_1)).trans hw216_1) | exact ((HB.out.cell (World.block_lt_of_cell? w _ hv216_1)).trans hv216_1) | exact hx216_1)⟩ (fun hHeld => ?_); refine with_tabW impl_DrawStrokes.tab11 impl_DrawStrokes.bits11 (fun HT_ HW_ => ?_)
                            generalize w20.drew = w21 at BK215 HI212 HB hx216_0 hx216_1 hHeld ⊢
                            refine pure_ (i := 0) (N := some 30) (v := ?_) (a' := ?_) #[true, false, false, false, false, false, false, false] rfl rfl (any_of HT_.out (by kernel_rfl)) (fun _ _ _ h => h) (Or.inl ⟨by rfl, ?_⟩) ?_ ?_
                            rotate_left
                            · intro w'
                              go_simp
                              with_reducible rfl
                            rotate_left
                            · simp only [Act.put, List.setIfInBounds_toArray, List.set_cons_zero, List.set_cons_succ, i64_w, i32_w]
                              rfl
                            refine pure_ (i := 1) (N := some 31) (v := ?_) (a' := ?_) #[true, true, false, false, false, false, false, false] rfl rfl (any_of HT_.out (by kernel_rfl)) (fun _ _ _ h => h) (Or.inl ⟨by rfl, ?_⟩) ?_ ?_
                            rotate_left
                            · intro w'
                              go_simp
                              with_reducible rfl
                            rotate_left
                            · simp only [Act.put, List.setIfInBounds_toArray, List.set_cons_zero, List.set_cons_succ, i64_w, i32_w]
                              rfl
                            refine pure_ (i := 2) (N := some 32) (v := ?_) (a' := ?_) #[true, true, true, false, false, false, false, false] rfl rfl (any_of HT_.out (by kernel_rfl)) (fun _ _ _ h => h) (Or.inl ⟨by rfl, ?_⟩) ?_ ?_
                            rotate_left
                            · intro w'
                              go_simp
                              with_reducible rfl
                            rotate_left
                            · simp only [Act.put, List.setIfInBounds_toArray, List.set_cons_zero, List.set_cons_succ, i64_w, i32_w]
                              rfl
                            refine pure_ (i := 3) (N := some 33) (v := ?_) (a' := ?_) #[true, true, true, true, false, false, false, false] rfl rfl (any_of HT_.out (by kernel_rfl)) (fun _ _ _ h => h) (Or.inl ⟨by rfl, ?_⟩) ?_ ?_
                            rotate_left
                            · intro w'
                              go_simp
                              with_reducible rfl
                            rotate_left
                            · simp only [Act.put, List.setIfInBounds_toArray, List.set_cons_zero, List.set_cons_succ, i64_w, i32_w]
                              rfl
                            refine pure_ (i := 4) (N := some 34) (v := ?_) (a' := ?_) #[true, true, true, true, true, false, false, false] rfl rfl (any_of HT_.out (by kernel_rfl)) (fun _ _ _ h => h) (Or.inl ⟨by rfl, ?_⟩) ?_ ?_
                            rotate_left
                            · intro w'
                              go_simp
                              with_reducible rfl
                            rotate_left
                            · simp only [Act.put, List.setIfInBounds_toArray, List.set_cons_zero, List.set_cons_succ, i64_w, i32_w]
                              rfl
                            refine take_ (i := 5) (N := some 35) (v := ?_) (a' := ?_) #[true, true, true, true, true, true, false, false] rfl rfl (take_ofW HT_.out HW_.out (by kernel_rfl)) (fun _ _ _ h => h) (Or.inl ⟨by rfl, ?_⟩) hHeld ?_ ?_
                            rotate_left
                            · rintro w' ⟨s0, s1, s2, s3⟩
                              go_simp
                              with_reducible rfl
                            rotate_left
                            · simp only [Act.put, List.setIfInBounds_toArray, List.set_cons_zero, List.set_cons_succ, i64_w, i32_w]
                              rfl
                            refine take_ (i := 6) (N := some 36) (v := ?_) (a' := ?_) #[true, true, true, true, true, true, true, false] rfl rfl (take_ofW HT_.out HW_.out (by kernel_rfl)) (fun _ _ _ h => h) (Or.inl ⟨by rfl, ?_⟩) hHeld ?_ ?_
                            rotate_left
                            · rintro w' ⟨s0, s1, s2, s3⟩
                              go_simp
                              with_reducible rfl
                            rotate_left
                            · simp only [Act.put, List.setIfInBounds_toArray, List.set_cons_zero, List.set_cons_succ, i64_w, i32_w]
                              rfl
                            refine one_ (i := 7) (N := some 37) #[true, true, true, true, true, true, true, true] rfl rfl (one_of HT_.out (by kernel_rfl)) (by decide) (fun K hK => ?_)
                            refine goes_ Try.func29 (by kernel_rfl) rfl #[.pointer (some ⟨g212, 0, none⟩), .agg #[.int .i16 ((rd_T60 (rd_L4 l0 x19_1) (ji13)).f0), .int .i16 ((rd_T60 (rd_L4 l0 x19_1) (ji13)).f1)], .agg #[.int .i16 ((rd_T60 (rd_L4 l0 x19_1) x25_2).f0), .int .i16 ((rd_T60 (rd_L4 l0 x19_1) x25_2).f1)]] (by rfl) rfl rfl (by (try simp only [List.map_toArray, List.map_cons, List.map_nil]); first | done | (simp only [hji13]; rfl) | rfl | (simp only [List.length_drop, List.length_take]; rfl)) ?_
                            with_reducible refine (impl_Plate_line.calls k2 g212 x213000_2 ((rd_T60 (rd_L4 l0 x19_1) (ji13)).f0) ((rd_T60 (rd_L4 l0 x19_1) (ji13)).f1) ((rd_T60 (rd_L4 l0 x19_1) x25_2).f0) ((rd_T60 (rd_L4 l0 x19_1) x25_2).f1) t217 w _ ?side1 ?side2 A16.out).mono ?_
                            (case side1 => refine (show IsP2 gb2 w _ g212 _ from ?_).1; repeat (first | (with_reducible first | exact HI212.out | apply IsP2.alloc | apply IsP2.drewN | apply IsP2.drew | refine IsP2.far ?_ NB212_215.out _) | exact HI212.out))
                            (case side2 => repeat (first | (with_reducible first | exact HB.out | apply below_alloc | apply pw_below_drewN | apply below_drew1 | refine below_set ?_ (IsP2.ge HI212.out) | refine below_set ?_ GE215.out) | exact HB.out))
                            rintro e w22 ⟨rfl, hi, hb, hk⟩
                            refine ⟨_, rfl, ?_⟩
                            have n0_ := Aside0.mk (KeepBut.blk hk (g' := gb215) (o := .cells #[.int .i16 ((rd_T60 (rd_L4 l0 x19_1) x25_2).f0), .int .i16 ((rd_T60 (rd_L4 l0 x19_1) x25_2).f1)] 60 (0, 0)) (by (with_reducible repeat (first | refine blk_drewN ?_ _ | refine blk_drew ?_ | refine blk_alloc ?_ _)); exact BK215.out) NB215_212.out (by simp))
                            have n1_ := Aside0.mk (hb)
                            have n2_ := Aside0.mk (IsP2.call HI212.out hi hk)
                            clear BK215
                            clear HB
                            clear HI212
                            have BK215 := n0_
                            have HB := n1_
                            have HI212 := n2_
                            clear n0_ n1_ n2_
                            (try clear hb)
                            (try clear hb2)
                            (try clear hk)
                            (try clear hi)
                            refine hK.out _ _ ⟨(blk_cell BK215.out 0).trans rfl, (blk_cell BK215.out 1).trans rfl, (by first | exact ((HB.out.cell (World.block_lt_of_cell? w _ hw216_0)).trans hw216_0) | exact ((HB.out.cell (World.block_lt_of_cell? w _ hv216_0)).trans hv216_0) | exact hx216_0), (by first | exact ((HB.out.cell (World.block_lt_of_cell? w _ hw216_1)).trans hw216_1) | exact ((HB.out.cell (World.block_lt_of_cell? w _ hv216_1)).trans hv216_1) | exact hx216_1)⟩ (fun hHeld => ?_)
                            clear hK K
                            refine norm_ (a' := ?_) ?_ ?_
                            rotate_left
                            · show Act.put _ (some 37) _ = _
                              simp only [Act.put, List.setIfInBounds_toArray, List.set_cons_zero, List.set_cons_succ, i64_w, i32_w]
                              rfl
                            refine done_ (done_of HT_.out (by kernel_rfl)) ?_
                            try go_wp2
                            go_roundg k2
                            case measure => have := HK1.out; have := HK2.out; omega
                            case rel => exact ⟨(wrap64 (x25_2 + 1)), (t217), (by first | rfl | (simp; done) | (simp [*]; done)), H', ⟨by have := HK1.out; have := HK2.out; omega⟩, ⟨by repeat (first | (with_reducible first | exact HI212.out | apply IsP2.alloc | apply IsP2.drewN | apply IsP2.drew | refine IsP2.far ?_ NB212_215.out _) | exact HI212.out | (simp only [Int.add_zero]))⟩, ⟨by repeat (first | (with_reducible first | exact HB.out | apply below_alloc | apply pw_below_drewN | apply below_drew1 | refine below_set ?_ (IsP2.ge HI212.out) | refine below_set ?_ GE215.out) | exact HB.out)⟩⟩
                          · rw [if_neg c15] at H
                            exact absurd H (by simp)
                        · rw [if_neg c14] at H
                          exact absurd H (by simp)
                      · rw [if_neg c12] at H
                        exact absurd H (by simp)
                    · rw [if_neg c11] at H
                      exact absurd H (by simp)
                  · rw [if_neg c10] at H
                    have c10b0 : decide (x25_2 < ((rd_L4 l0 x19_1).length : Int)) = false := decide_eq_false c10
                    clear c10
                    have H' := Aside0.mk H
                    clear H
                    go_wp2
                    go_roundg k2
                    case measure => have := HK1.out; have := HK2.out; omega
                    case rel => exact ⟨(wrap64 (x19_1 + 1)), (x213000_2), (by first | rfl | (simp; done) | (simp [*]; done)), H', ⟨by have := HK1.out; have := HK2.out; omega⟩, ⟨by repeat (first | (with_reducible first | exact HI212.out | apply IsP2.alloc | apply IsP2.drewN | apply IsP2.drew) | exact HI212.out | (simp only [Int.add_zero]))⟩, ⟨by repeat (first | (with_reducible first | exact HB.out | apply below_alloc | apply pw_below_drewN | apply below_drew1 | refine below_set ?_ (IsP2.ge HI212.out)) | exact HB.out)⟩⟩
            · rw [if_neg c9] at H
              exact absurd H (by simp)
          · rw [if_neg c8] at H
            exact absurd H (by simp)
        · rw [if_neg c7] at H
          have c7b0 : decide (x19_1 < (l0.length : Int)) = false := decide_eq_false c7
          clear c7
          simp only [Option.some.injEq, Prod.mk.injEq] at H
          obtain ⟨hY_, rfl⟩ := H
          go_upto_region 14 with (fail)
          refine wp_region_lit ?_
          refine pl_load (p := 5) (g := g212) (x := x213000_1) ?hg ?ho ?hp HI212.out.1.1 Try.underlying26 (by kernel_rfl) ?_
          (case ho => rfl)
          (case hg => rfl)
          (case hp => rfl)
          refine pl_store (p := 2) (v := ?vv2) (g := gb2) (x := x213000_1) ?hg ?ho ?hn ?hp ?hv HI212.out.2.1 (plA_size _) (by kernel_rfl) ?_; (case ho => rfl); (case hg => rfl); (case hn => rfl); (case hp => rfl); (case hv => rfl); intro w9 hw; have RB := Aside0.mk (show w9.heap[gb2]? = some (.cells (plA x213000_1) 26 (0, 0)) from by rw [hw]; exact blk_putP HI212.out.2.1 _); have n0_ := Aside0.mk (show Below w.heap.size w w9 from by rw [hw]; exact below_setP HB.out HI212.out.2.2.2); clear HB; have HB := n0_; clear n0_ hw
          (try simp only [Act.put, List.setIfInBounds_toArray, List.set_cons_zero, List.set_cons_succ])
          go_wp2
          refine bodyPost_ret (results_ct rfl _ _ gb2 26 (plA x213000_1) (0, 0) _ rfl RB.out Try.underlying26 rfl (by kernel_rfl)) rfl ?_
          exact ⟨by rw [← hY_]; rfl, HB.out⟩
  · rw [if_neg c3] at H
    have c3b0 : (t210 == 0) = false := beq_eq_false_iff_ne.mpr c3
    have c3b1 : (t210 != 0) = true := bne_iff_ne.mpr c3
    simp only [Option.some.injEq, Prod.mk.injEq] at H
    obtain ⟨rfl, rfl⟩ := H
    go_enter Try.func9, Try.ntmps9
    go_wp2_with (first | ((with_reducible refine gate_dst (N := 2) rfl ?_); refine box_event ?hg (N := 2) ?hd (cs := plA pl0_) (t := 26) ?hr ?_; (case hd => rfl); (case hg => rfl); (case hr => first | (go_simp; done) | (go_simp; rfl)); intro gb2 hg w3 hbox hb; have n0_ := Aside0.mk (below_step HB.out hb); have BK2 := Aside0.mk hbox; have GE2 := Aside0.mk (show w.heap.size ≤ gb2 from by rw [hg]; exact below_size HB.out); clear HB; have HB := n0_; clear n0_ hb hbox hg) | ((with_reducible refine gate_callee (f := 28) rfl ?_); refine goesL_ (some 11) rfl rfl Try.func28 (by kernel_rfl) rfl #[.slice A0 l0.length c0] rfl (by (try simp only [List.map_toArray, List.map_cons, List.map_nil]); first | done | rfl | (simp only [List.length_drop, List.length_take]; rfl)) ?_; (with_reducible refine (impl_strokesCode.calls k _ _ l0 t210 _ ?side1 ?side2 A2.out).mono ?_); (case side1 => repeat (first | exact (Kd.C_below HR0.out HB.out) | (with_reducible refine Kd.C_alloc ?_ _) | (with_reducible refine Kd.C_drewN ?_ _) | (with_reducible refine Kd.C_drew ?_))); (case side2 => exact HC0.out); rintro e w24 ⟨rfl, hb⟩; refine ⟨_, rfl, ?_⟩; have nb_ := Aside0.mk (blk_below BK2.out hb); clear BK2; have BK2 := nb_; clear nb_; have n0_ := Aside0.mk (below_step (by repeat (first | (with_reducible first | exact HB.out | apply below_alloc | apply pw_below_drewN | apply below_drew1) | exact HB.out)) hb); clear HB; have HB := n0_; clear n0_; (try clear hb); (try clear hb2); (try clear hk); (try clear hi)) | ((with_reducible refine gate_store (t := 26) (p := 2) rfl ?_); refine pl_store (p := 2) (v := ?vv3) (g := gb2) (x := pl0_) ?hg ?ho ?hn ?hp ?hv BK2.out (plA_size _) (by kernel_rfl) ?_; (case ho => rfl); (case hg => rfl); (case hn => rfl); (case hp => rfl); (case hv => rfl); intro w9 hw; have RB := Aside0.mk (show w9.heap[gb2]? = some (.cells (plA pl0_) 26 (0, 0)) from by rw [hw]; exact blk_putP BK2.out _); have n0_ := Aside0.mk (show Below w.heap.size w w9 from by rw [hw]; exact below_setP HB.out GE2.out); clear HB; have HB := n0_; clear n0_ hw))
    refine bodyPost_ret (results_ct rfl _ _ gb2 26 (plA pl0_) (0, 0) _ rfl RB.out Try.underlying26 rfl (by kernel_rfl)) rfl ?_
    exact ⟨by first | rfl | (simp; done), HB.out⟩

/-! ### laws_eqPlate -/
def laws_eqPlate.l0 : Nat → Int → List Int → List Int → Option (Bool)
  | 0, _, _, _ => none
  | k + 1, x5, x1000, x1001 => if x5 < 64 then (if 0 ≤ x5 then (if (rd x1000 x5) = (rd x1001 x5) then (laws_eqPlate.l0 k (wrap64 (x5 + 1)) x1000 x1001) else (some false)) else (none)) else (some true)
def laws_eqPlate.f (k : Nat) (a0_0 : List Int) (a1_0 : List Int) : Option (Bool) := laws_eqPlate.l0 k 0 a0_0 a1_0
theorem laws_eqPlate.mono_l : ∀ k, (∀ y0 y1 y2, LeO (laws_eqPlate.l0 k y0 y1 y2) (laws_eqPlate.l0 (k + 1) y0 y1 y2))
  | 0 => fun _ _ _ r h => by simp [laws_eqPlate.l0] at h
  | k + 1 => by
    have ih0 := laws_eqPlate.mono_l k
    · intro y0 y1 y2
      unfold laws_eqPlate.l0
      repeat' first
      | (with_reducible exact ih0 _ _ _)
      | (with_reducible exact LeO.refl _)
      | (with_reducible exact LeO.none _)
      | (with_reducible refine LeO.ite ?_ ?_)
      | exact ih0 _ _ _
theorem laws_eqPlate.mono : ∀ a0 a1 k, LeO (laws_eqPlate.f k a0 a1) (laws_eqPlate.f (k + 1) a0 a1) := by
  intro a0 a1 k
  exact laws_eqPlate.mono_l k _ _ _
set_option maxHeartbeats 8000000 in
set_option maxRecDepth 100000 in
theorem laws_eqPlate.calls (k : Nat) (a0_0 : List Int) (a1_0 : List Int) (r : Bool) (w : World) (h : laws_eqPlate.f k a0_0 a1_0 = some r) :
    Calls Try.prog 10 #[.agg (plA a0_0), .agg (plA a1_0)] w fun e w' => e = .returned (.bool r) ∧ Below w.heap.size w w' := by
  have hu26 := Try.underlying26
  have HB := Aside0.mk (Below.refl w.heap.size w)
  have H : (laws_eqPlate.l0 k 0 a0_0 a1_0) = some r := h
  clear h
  have H' := Aside0.mk H
  clear H
  go_enter Try.func10, Try.ntmps10
  go_wp2_with (first | ((with_reducible refine gate_dst (N := 2) rfl ?_); refine box_event ?hg (N := 2) ?hd (cs := plA a0_0) (t := 26) ?hr ?_; (case hd => rfl); (case hg => rfl); (case hr => first | (go_simp; done) | (go_simp; rfl)); intro gb1 hg w3 hbox hb; have n1_ := Aside0.mk (below_step HB.out hb); have BK1 := Aside0.mk hbox; clear HB; have HB := n1_; clear n1_ hb hbox hg) | ((with_reducible refine gate_dst (N := 3) rfl ?_); refine box_event ?hg (N := 3) ?hd (cs := plA a1_0) (t := 26) ?hr ?_; (case hd => rfl); (case hg => rfl); (case hr => first | (go_simp; done) | (go_simp; rfl)); intro gb2 hg w4 hbox hb; have n1_ := Aside0.mk (below_step HB.out hb); have n2_ := Aside0.mk (blk_below BK1.out hb); have BK2 := Aside0.mk hbox; clear HB BK1; have HB := n1_; have BK1 := n2_; clear n1_ n2_ hb hbox hg))
  go_loopg [5] k (fun kq v5 w' => ∃ (x5_1 : Int), v5 = .int .i64 x5_1 ∧ Aside0 (laws_eqPlate.l0 kq x5_1 a0_0 a1_0 = some r) ∧ Aside0 (kq ≤ k) ∧ Aside0 (w'.heap[gb1]? = some (.cells (plA a0_0) 26 (0, 0))) ∧ Aside0 (w'.heap[gb2]? = some (.cells (plA a1_0) 26 (0, 0))) ∧ Aside0 (Below w.heap.size w w'))
  case atStart => exact ⟨(0), (by first | rfl | (simp; done) | (simp [*]; done)), H', ⟨Nat.le_refl _⟩, BK1, BK2, HB⟩
  case round =>
    clear H' BK1 BK2 HB
    obtain ⟨x5_1, rfl, HA, HK1, BK1, BK2, HB⟩ := hrel
    cases gk with
    | zero => exact absurd HA.out (by simp [laws_eqPlate.l0])
    | succ k1 =>
      have H := HA.out
      clear HA
      simp only [laws_eqPlate.l0] at H
      by_cases c5 : x5_1 < 64
      · rw [if_pos c5] at H
        have c5b0 : decide (x5_1 < 64) = true := decide_eq_true c5
        by_cases c6 : 0 ≤ x5_1
        · rw [if_pos c6] at H
          have e1 : (0 ≤ x5_1) = True := eq_true c6
          have e2 : (x5_1 < 64) = True := eq_true c5
          have hc1 : wr.cell? ⟨gb1, x5_1.toNat, none⟩ = some (.int .u64 (rd a0_0 x5_1)) := (blk_cell BK1.out x5_1.toNat).trans (by rw [plA_get _ _ (by omega), Int.toNat_of_nonneg c6])
          have hc2 : wr.cell? ⟨gb2, x5_1.toNat, none⟩ = some (.int .u64 (rd a1_0 x5_1)) := (blk_cell BK2.out x5_1.toNat).trans (by rw [plA_get _ _ (by omega), Int.toNat_of_nonneg c6])
          have hw : wrap64 (x5_1 + 1) = x5_1 + 1 := by unfold wrap64; omega
          clear c5 c6
          by_cases c7 : rd a0_0 x5_1 = rd a1_0 x5_1
          · rw [if_pos c7] at H
            have c7b0 : (rd a0_0 x5_1 == rd a1_0 x5_1) = true := beq_iff_eq.mpr c7
            have c7b1 : (rd a0_0 x5_1 != rd a1_0 x5_1) = false := bne_eq_false_iff_eq.mpr c7
            clear c7
            have H' := Aside0.mk H
            clear H
            go_wp2
            repeat (go_quiet (fail); try go_wp2)
            go_roundg k1
            case measure => have := HK1.out; omega
            case rel => exact ⟨(wrap64 (x5_1 + 1)), (by first | rfl | (simp; done) | (simp [*]; done)), H', ⟨by have := HK1.out; omega⟩, BK1, BK2, ⟨by repeat (first | (with_reducible first | exact HB.out | apply below_alloc | apply pw_below_drewN | apply below_drew1) | exact HB.out)⟩⟩
          · rw [if_neg c7] at H
            have c7b0 : (rd a0_0 x5_1 == rd a1_0 x5_1) = false := beq_eq_false_iff_ne.mpr c7
            have c7b1 : (rd a0_0 x5_1 != rd a1_0 x5_1) = true := bne_iff_ne.mpr c7
            clear c7
            obtain rfl := Option.some.inj H
            go_wp2
            repeat (go_quiet (fail); try go_wp2)
            go_ret
            exact ⟨by first | rfl | (simp; done), by repeat (first | (with_reducible first | exact HB.out | apply below_alloc | apply pw_below_drewN | apply below_drew1) | exact HB.out)⟩
        · rw [if_neg c6] at H; cases H
      · rw [if_neg c5] at H
        have c5b0 : decide (x5_1 < 64) = false := decide_eq_false c5
        clear c5
        obtain rfl := Option.some.inj H
        go_wp2
        go_ret
        exact ⟨by first | rfl | (simp; done), by repeat (first | (with_reducible first | exact HB.out | apply below_alloc | apply pw_below_drewN | apply below_drew1) | exact HB.out)⟩

/-! ### laws_eqMark: function 58 -/
def laws_eqMark.l0 : Nat → Int → Int → Int → Int → Int → Option (Bool)
  | 0, _, _, _, _, _ => none
  | k + 1, x5, x197000, x197001, x198000, x198001 => if x5 < 2 then (if x5 = 0 then (if x197000 = x198000 then (laws_eqMark.l0 k (wrap64 (x5 + 1)) x197000 x197001 x198000 x198001) else (some false)) else (if x5 = 1 then (if x197001 = x198001 then (laws_eqMark.l0 k (wrap64 (x5 + 1)) x197000 x197001 x198000 x198001) else (some false)) else (none))) else (some true)
def laws_eqMark.f (k : Nat) (a0_0 : Int) (a0_1 : Int) (a1_0 : Int) (a1_1 : Int) : Option (Bool) := laws_eqMark.l0 k 0 a0_0 a0_1 a1_0 a1_1
theorem laws_eqMark.mono_l : ∀ k, (∀ y0 y1 y2 y3 y4, LeO (laws_eqMark.l0 k y0 y1 y2 y3 y4) (laws_eqMark.l0 (k + 1) y0 y1 y2 y3 y4))
  | 0 => fun _ _ _ _ _ r h => by simp [laws_eqMark.l0] at h
  | k + 1 => by
    have ih0 := laws_eqMark.mono_l k
    · intro y0 y1 y2 y3 y4
      unfold laws_eqMark.l0
      repeat' first
      | (with_reducible exact ih0 _ _ _ _ _)
      | (with_reducible exact LeO.refl _)
      | (with_reducible exact LeO.none _)
      | (with_reducible refine LeO.ite ?_ ?_)
      | (with_reducible refine LeO.bind ?_ (fun _ => ?_))
      | exact ih0 _ _ _ _ _
      | exact LeO.none _
      | refine LeO.ite ?_ ?_
      | refine LeO.bind ?_ (fun _ => ?_)
theorem laws_eqMark.mono : ∀ a0 a1 a2 a3 k, LeO (laws_eqMark.f k a0 a1 a2 a3) (laws_eqMark.f (k + 1) a0 a1 a2 a3) := by
  intro a0 a1 a2 a3 k
  have ih0 := laws_eqMark.mono_l k
  unfold laws_eqMark.f
  repeat' first
      | (with_reducible exact ih0 _ _ _ _ _)
      | (with_reducible exact LeO.refl _)
      | (with_reducible exact LeO.none _)
      | (with_reducible refine LeO.ite ?_ ?_)
      | (with_reducible refine LeO.bind ?_ (fun _ => ?_))
      | exact ih0 _ _ _ _ _
      | exact LeO.none _
      | refine LeO.ite ?_ ?_
      | refine LeO.bind ?_ (fun _ => ?_)
set_option maxHeartbeats 8000000 in
set_option maxRecDepth 100000 in
theorem laws_eqMark.calls (k : Nat) (a0_0 : Int) (a0_1 : Int) (a1_0 : Int) (a1_1 : Int) (r : Bool) (w : World) (h : laws_eqMark.f k a0_0 a0_1 a1_0 a1_1 = some r) :
    Calls Try.prog 58 #[.agg #[.int .i16 a0_0, .int .i16 a0_1], .agg #[.int .i16 a1_0, .int .i16 a1_1]] w fun e w' => e = .returned (.bool r) ∧ Below w.heap.size w w' := by
  have hu60 := Try.underlying60
  have HB := Aside0.mk (Below.refl w.heap.size w)
  have H : (laws_eqMark.l0 k 0 a0_0 a0_1 a1_0 a1_1) = some r := h
  clear h
  have H' := Aside0.mk H
  clear H
  go_enter Try.func58, Try.ntmps58
  go_wp2_with (first | ((with_reducible refine gate_dst (N := 2) rfl ?_); refine box_event ?hg (N := 2) ?hd (cs := #[.int .i16 a0_0, .int .i16 a0_1]) (t := 60) ?hr ?_; (case hd => rfl); (case hg => rfl); (case hr => first | (go_simp; done) | (go_simp; rfl)); intro gb196 hg w3 hbox hb; have n0_ := Aside0.mk (below_step (by repeat (first | (with_reducible first | exact HB.out | apply below_alloc | apply pw_below_drewN | apply below_drew1) | exact HB.out)) hb); have n1_ := Aside0.mk (hbox); have n2_ := Aside0.mk ((by rw [hg]; exact (below_size (by repeat (first | (with_reducible first | exact HB.out | apply below_alloc | apply pw_below_drewN | apply below_drew1) | exact HB.out))) : w.heap.size ≤ gb196)); have n3_ := Aside0.mk ((by rw [hg]; exact (below_size (by repeat (first | (with_reducible first | exact HB.out | apply below_alloc | apply pw_below_drewN | apply below_drew1) | exact HB.out))) : w.heap.size ≤ gb196)); clear HB; have HB := n0_; have BK196 := n1_; have GW196 := n2_; have GE196 := n3_; clear n0_ n1_ n2_ n3_; clear hb hbox hg) | ((with_reducible refine gate_dst (N := 3) rfl ?_); refine box_event ?hg (N := 3) ?hd (cs := #[.int .i16 a1_0, .int .i16 a1_1]) (t := 60) ?hr ?_; (case hd => rfl); (case hg => rfl); (case hr => first | (go_simp; done) | (go_simp; rfl)); intro gb197 hg w4 hbox hb; have n0_ := Aside0.mk (blk_below (g := gb196) (o := .cells #[.int .i16 a0_0, .int .i16 a0_1] 60 (0, 0)) (by (with_reducible repeat (first | refine blk_drewN ?_ _ | refine blk_drew ?_ | refine blk_alloc ?_ _)); exact BK196.out) hb); have n1_ := Aside0.mk (below_step (by repeat (first | (with_reducible first | exact HB.out | apply below_alloc | apply pw_below_drewN | apply below_drew1 | refine below_set ?_ GE196.out) | exact HB.out)) hb); have n2_ := Aside0.mk (hbox); have n3_ := Aside0.mk ((by rw [hg]; exact (below_size (by repeat (first | (with_reducible first | exact HB.out | apply below_alloc | apply pw_below_drewN | apply below_drew1 | refine below_set ?_ GE196.out) | exact HB.out))) : w.heap.size ≤ gb197)); have n4_ := Aside0.mk ((by rw [hg]; exact (below_size (by repeat (first | (with_reducible first | exact HB.out | apply below_alloc | apply pw_below_drewN | apply below_drew1 | refine below_set ?_ GE196.out) | exact HB.out))) : w.heap.size ≤ gb197)); have n5_ := Aside0.mk ((by rw [hg]; exact Nat.ne_of_lt (blk_lt (g := gb196) (o := .cells #[.int .i16 a0_0, .int .i16 a0_1] 60 (0, 0)) (by (with_reducible repeat (first | refine blk_drewN ?_ _ | refine blk_drew ?_ | refine blk_alloc ?_ _)); exact BK196.out)) : gb196 ≠ gb197)); have n6_ := Aside0.mk ((by rw [hg]; exact Nat.ne_of_gt (blk_lt (g := gb196) (o := .cells #[.int .i16 a0_0, .int .i16 a0_1] 60 (0, 0)) (by (with_reducible repeat (first | refine blk_drewN ?_ _ | refine blk_drew ?_ | refine blk_alloc ?_ _)); exact BK196.out)) : gb197 ≠ gb196)); clear BK196; clear HB; have BK196 := n0_; have HB := n1_; have BK197 := n2_; have GW197 := n3_; have GE197 := n4_; have NB196_197 := n5_; have NB197_196 := n6_; clear n0_ n1_ n2_ n3_ n4_ n5_ n6_; clear hb hbox hg))
  repeat (go_quiet (first | ((with_reducible refine gate_dst (N := 2) rfl ?_); refine box_event ?hg (N := 2) ?hd (cs := #[.int .i16 a0_0, .int .i16 a0_1]) (t := 60) ?hr ?_; (case hd => rfl); (case hg => rfl); (case hr => first | (go_simp; done) | (go_simp; rfl)); intro gb196 hg w3 hbox hb; have n0_ := Aside0.mk (below_step (by repeat (first | (with_reducible first | exact HB.out | apply below_alloc | apply pw_below_drewN | apply below_drew1) | exact HB.out)) hb); have n1_ := Aside0.mk (hbox); have n2_ := Aside0.mk ((by rw [hg]; exact (below_size (by repeat (first | (with_reducible first | exact HB.out | apply below_alloc | apply pw_below_drewN | apply below_drew1) | exact HB.out))) : w.heap.size ≤ gb196)); have n3_ := Aside0.mk ((by rw [hg]; exact (below_size (by repeat (first | (with_reducible first | exact HB.out | apply below_alloc | apply pw_below_drewN | apply below_drew1) | exact HB.out))) : w.heap.size ≤ gb196)); clear HB; have HB := n0_; have BK196 := n1_; have GW196 := n2_; have GE196 := n3_; clear n0_ n1_ n2_ n3_; clear hb hbox hg) | ((with_reducible refine gate_dst (N := 3) rfl ?_); refine box_event ?hg (N := 3) ?hd (cs := #[.int .i16 a1_0, .int .i16 a1_1]) (t := 60) ?hr ?_; (case hd => rfl); (case hg => rfl); (case hr => first | (go_simp; done) | (go_simp; rfl)); intro gb197 hg w4 hbox hb; have n0_ := Aside0.mk (blk_below (g := gb196) (o := .cells #[.int .i16 a0_0, .int .i16 a0_1] 60 (0, 0)) (by (with_reducible repeat (first | refine blk_drewN ?_ _ | refine blk_drew ?_ | refine blk_alloc ?_ _)); exact BK196.out) hb); have n1_ := Aside0.mk (below_step (by repeat (first | (with_reducible first | exact HB.out | apply below_alloc | apply pw_below_drewN | apply below_drew1 | refine below_set ?_ GE196.out) | exact HB.out)) hb); have n2_ := Aside0.mk (hbox); have n3_ := Aside0.mk ((by rw [hg]; exact (below_size (by repeat (first | (with_reducible first | exact HB.out | apply below_alloc | apply pw_below_drewN | apply below_drew1 | refine below_set ?_ GE196.out) | exact HB.out))) : w.heap.size ≤ gb197)); have n4_ := Aside0.mk ((by rw [hg]; exact (below_size (by repeat (first | (with_reducible first | exact HB.out | apply below_alloc | apply pw_below_drewN | apply below_drew1 | refine below_set ?_ GE196.out) | exact HB.out))) : w.heap.size ≤ gb197)); have n5_ := Aside0.mk ((by rw [hg]; exact Nat.ne_of_lt (blk_lt (g := gb196) (o := .cells #[.int .i16 a0_0, .int .i16 a0_1] 60 (0, 0)) (by (with_reducible repeat (first | refine blk_drewN ?_ _ | refine blk_drew ?_ | refine blk_alloc ?_ _)); exact BK196.out)) : gb196 ≠ gb197)); have n6_ := Aside0.mk ((by rw [hg]; exact Nat.ne_of_gt (blk_lt (g := gb196) (o := .cells #[.int .i16 a0_0, .int .i16 a0_1] 60 (0, 0)) (by (with_reducible repeat (first | refine blk_drewN ?_ _ | refine blk_drew ?_ | refine blk_alloc ?_ _)); exact BK196.out)) : gb197 ≠ gb196)); clear BK196; clear HB; have BK196 := n0_; have HB := n1_; have BK197 := n2_; have GW197 := n3_; have GE197 := n4_; have NB196_197 := n5_; have NB197_196 := n6_; clear n0_ n1_ n2_ n3_ n4_ n5_ n6_; clear hb hbox hg)); try go_wp2_with (first | ((with_reducible refine gate_dst (N := 2) rfl ?_); refine box_event ?hg (N := 2) ?hd (cs := #[.int .i16 a0_0, .int .i16 a0_1]) (t := 60) ?hr ?_; (case hd => rfl); (case hg => rfl); (case hr => first | (go_simp; done) | (go_simp; rfl)); intro gb196 hg w3 hbox hb; have n0_ := Aside0.mk (below_step (by repeat (first | (with_reducible first | exact HB.out | apply below_alloc | apply pw_below_drewN | apply below_drew1) | exact HB.out)) hb); have n1_ := Aside0.mk (hbox); have n2_ := Aside0.mk ((by rw [hg]; exact (below_size (by repeat (first | (with_reducible first | exact HB.out | apply below_alloc | apply pw_below_drewN | apply below_drew1) | exact HB.out))) : w.heap.size ≤ gb196)); have n3_ := Aside0.mk ((by rw [hg]; exact (below_size (by repeat (first | (with_reducible first | exact HB.out | apply below_alloc | apply pw_below_drewN | apply below_drew1) | exact HB.out))) : w.heap.size ≤ gb196)); clear HB; have HB := n0_; have BK196 := n1_; have GW196 := n2_; have GE196 := n3_; clear n0_ n1_ n2_ n3_; clear hb hbox hg) | ((with_reducible refine gate_dst (N := 3) rfl ?_); refine box_event ?hg (N := 3) ?hd (cs := #[.int .i16 a1_0, .int .i16 a1_1]) (t := 60) ?hr ?_; (case hd => rfl); (case hg => rfl); (case hr => first | (go_simp; done) | (go_simp; rfl)); intro gb197 hg w4 hbox hb; have n0_ := Aside0.mk (blk_below (g := gb196) (o := .cells #[.int .i16 a0_0, .int .i16 a0_1] 60 (0, 0)) (by (with_reducible repeat (first | refine blk_drewN ?_ _ | refine blk_drew ?_ | refine blk_alloc ?_ _)); exact BK196.out) hb); have n1_ := Aside0.mk (below_step (by repeat (first | (with_reducible first | exact HB.out | apply below_alloc | apply pw_below_drewN | apply below_drew1 | refine below_set ?_ GE196.out) | exact HB.out)) hb); have n2_ := Aside0.mk (hbox); have n3_ := Aside0.mk ((by rw [hg]; exact (below_size (by repeat (first | (with_reducible first | exact HB.out | apply below_alloc | apply pw_below_drewN | apply below_drew1 | refine below_set ?_ GE196.out) | exact HB.out))) : w.heap.size ≤ gb197)); have n4_ := Aside0.mk ((by rw [hg]; exact (below_size (by repeat (first | (with_reducible first | exact HB.out | apply below_alloc | apply pw_below_drewN | apply below_drew1 | refine below_set ?_ GE196.out) | exact HB.out))) : w.heap.size ≤ gb197)); have n5_ := Aside0.mk ((by rw [hg]; exact Nat.ne_of_lt (blk_lt (g := gb196) (o := .cells #[.int .i16 a0_0, .int .i16 a0_1] 60 (0, 0)) (by (with_reducible repeat (first | refine blk_drewN ?_ _ | refine blk_drew ?_ | refine blk_alloc ?_ _)); exact BK196.out)) : gb196 ≠ gb197)); have n6_ := Aside0.mk ((by rw [hg]; exact Nat.ne_of_gt (blk_lt (g := gb196) (o := .cells #[.int .i16 a0_0, .int .i16 a0_1] 60 (0, 0)) (by (with_reducible repeat (first | refine blk_drewN ?_ _ | refine blk_drew ?_ | refine blk_alloc ?_ _)); exact BK196.out)) : gb197 ≠ gb196)); clear BK196; clear HB; have BK196 := n0_; have HB := n1_; have BK197 := n2_; have GW197 := n3_; have GE197 := n4_; have NB196_197 := n5_; have NB197_196 := n6_; clear n0_ n1_ n2_ n3_ n4_ n5_ n6_; clear hb hbox hg)))
  any_goals (first | (exfalso; (try simp only [decide_eq_true_eq, decide_eq_false_iff_not] at *); omega) | skip)
  go_loopg [5] k (fun kq v5 w' => ∃ (x5_1 : Int), v5 = .int .i64 x5_1 ∧ Aside0 (laws_eqMark.l0 kq x5_1 a0_0 a0_1 a1_0 a1_1 = some r) ∧ Aside0 (kq ≤ k) ∧ Aside0 (w'.heap[gb196]? = some (.cells #[.int .i16 a0_0, .int .i16 a0_1] 60 (0, 0))) ∧ Aside0 (w'.heap[gb197]? = some (.cells #[.int .i16 a1_0, .int .i16 a1_1] 60 (0, 0))) ∧ Aside0 (Below w.heap.size w w'))
  case atStart => exact ⟨(0), (by first | rfl | (simp; done) | (simp [*]; done)), H', ⟨Nat.le_refl _⟩, ⟨by (with_reducible repeat (first | refine blk_drewN ?_ _ | refine blk_drew ?_ | refine blk_alloc ?_ _)); exact BK196.out⟩, ⟨by (with_reducible repeat (first | refine blk_drewN ?_ _ | refine blk_drew ?_ | refine blk_alloc ?_ _)); exact BK197.out⟩, ⟨by repeat (first | (with_reducible first | exact HB.out | apply below_alloc | apply pw_below_drewN | apply below_drew1 | refine below_set ?_ GE196.out | refine below_set ?_ GE197.out) | exact HB.out)⟩⟩
  case round =>
    clear H'
    try clear p2
    obtain ⟨x5_1, rfl, HA, HK1, BK196, BK197, HB⟩ := hrel
    cases gk with
    | zero => exact absurd HA.out (by simp [laws_eqMark.l0])
    | succ k1 =>
      have H := HA.out
      clear HA
      simp only [laws_eqMark.l0] at H
      by_cases c5 : x5_1 < 2
      · rw [if_pos c5] at H
        have c5b0 : decide (x5_1 < 2) = true := decide_eq_true c5
        clear c5
        by_cases c6 : x5_1 = 0
        · rw [if_pos c6] at H
          have c6b0 : (x5_1 == 0) = true := beq_iff_eq.mpr c6
          have c6b1 : (x5_1 != 0) = false := bne_eq_false_iff_eq.mpr c6
          have c6b2 : (0 ≤ x5_1) = True := eq_true (by omega)
          have c6b3 : (x5_1 < 2) = True := eq_true (by omega)
          have c6b4 : Int.toNat x5_1 = 0 := by omega
          have c6b5 : wrap64 (x5_1 + 1) = x5_1 + 1 := by unfold wrap64; omega
          clear c6
          by_cases c7 : a0_0 = a1_0
          · rw [if_pos c7] at H
            have c7b0 : (a0_0 == a1_0) = true := beq_iff_eq.mpr c7
            have c7b1 : (a0_0 != a1_0) = false := bne_eq_false_iff_eq.mpr c7
            clear c7
            have H' := Aside0.mk H
            clear H
            have hnb8 := NB196_197.out
            have hnc8 := NB197_196.out
            have hcz9_0 : wr.cell? ⟨gb196, 0, none⟩ = some (.int .i16 a0_0) := (blk_cell BK196.out 0).trans rfl
            have hcz9_1 : wr.cell? ⟨gb196, 1, none⟩ = some (.int .i16 a0_1) := (blk_cell BK196.out 1).trans rfl
            have hfz9_0 := blk_frozen BK196.out 0
            have hfz9_1 := blk_frozen BK196.out 1
            have hcz10_0 : wr.cell? ⟨gb197, 0, none⟩ = some (.int .i16 a1_0) := (blk_cell BK197.out 0).trans rfl
            have hcz10_1 : wr.cell? ⟨gb197, 1, none⟩ = some (.int .i16 a1_1) := (blk_cell BK197.out 1).trans rfl
            have hfz10_0 := blk_frozen BK197.out 0
            have hfz10_1 := blk_frozen BK197.out 1
            go_wp2
            repeat (go_quiet (fail); try go_wp2)
            any_goals (first | (exfalso; (try simp only [decide_eq_true_eq, decide_eq_false_iff_not] at *); omega) | skip)
            go_roundg k1
            case measure => have := HK1.out; omega
            case rel => exact ⟨(wrap64 (x5_1 + 1)), (by first | rfl | (simp; done) | (simp [*]; done)), H', ⟨by have := HK1.out; omega⟩, ⟨by (with_reducible repeat (first | refine blk_drewN ?_ _ | refine blk_drew ?_ | refine blk_alloc ?_ _)); exact BK196.out⟩, ⟨by (with_reducible repeat (first | refine blk_drewN ?_ _ | refine blk_drew ?_ | refine blk_alloc ?_ _)); exact BK197.out⟩, ⟨by repeat (first | (with_reducible first | exact HB.out | apply below_alloc | apply pw_below_drewN | apply below_drew1 | refine below_set ?_ GE196.out | refine below_set ?_ GE197.out) | exact HB.out)⟩⟩
          · rw [if_neg c7] at H
            have c7b0 : (a0_0 == a1_0) = false := beq_eq_false_iff_ne.mpr c7
            have c7b1 : (a0_0 != a1_0) = true := bne_iff_ne.mpr c7
            obtain rfl := Option.some.inj H
            have hnb11 := NB196_197.out
            have hnc11 := NB197_196.out
            have hcz12_0 : wr.cell? ⟨gb196, 0, none⟩ = some (.int .i16 a0_0) := (blk_cell BK196.out 0).trans rfl
            have hcz12_1 : wr.cell? ⟨gb196, 1, none⟩ = some (.int .i16 a0_1) := (blk_cell BK196.out 1).trans rfl
            have hfz12_0 := blk_frozen BK196.out 0
            have hfz12_1 := blk_frozen BK196.out 1
            have hcz13_0 : wr.cell? ⟨gb197, 0, none⟩ = some (.int .i16 a1_0) := (blk_cell BK197.out 0).trans rfl
            have hcz13_1 : wr.cell? ⟨gb197, 1, none⟩ = some (.int .i16 a1_1) := (blk_cell BK197.out 1).trans rfl
            have hfz13_0 := blk_frozen BK197.out 0
            have hfz13_1 := blk_frozen BK197.out 1
            go_wp2
            repeat (go_quiet (fail); try go_wp2)
            any_goals (first | (exfalso; (try simp only [decide_eq_true_eq, decide_eq_false_iff_not] at *); omega) | skip)
            go_ret
            exact ⟨by first | rfl | (simp [errW_none, errW_some] <;> rfl) | (simp [*, errW_none, errW_some] <;> rfl), by repeat (first | (with_reducible first | exact HB.out | apply below_alloc | apply pw_below_drewN | apply below_drew1 | refine below_set ?_ GE196.out | refine below_set ?_ GE197.out) | exact HB.out)⟩
        · rw [if_neg c6] at H
          have c6b0 : (x5_1 == 0) = false := beq_eq_false_iff_ne.mpr c6
          have c6b1 : (x5_1 != 0) = true := bne_iff_ne.mpr c6
          by_cases c14 : x5_1 = 1
          · rw [if_pos c14] at H
            have c14b0 : (x5_1 == 1) = true := beq_iff_eq.mpr c14
            have c14b1 : (x5_1 != 1) = false := bne_eq_false_iff_eq.mpr c14
            have c14b2 : (0 ≤ x5_1) = True := eq_true (by omega)
            have c14b3 : (x5_1 < 2) = True := eq_true (by omega)
            have c14b4 : Int.toNat x5_1 = 1 := by omega
            have c14b5 : wrap64 (x5_1 + 1) = x5_1 + 1 := by unfold wrap64; omega
            clear c14
            by_cases c15 : a0_1 = a1_1
            · rw [if_pos c15] at H
              have c15b0 : (a0_1 == a1_1) = true := beq_iff_eq.mpr c15
              have c15b1 : (a0_1 != a1_1) = false := bne_eq_false_iff_eq.mpr c15
              clear c15
              have H' := Aside0.mk H
              clear H
              have hnb16 := NB196_197.out
              have hnc16 := NB197_196.out
              have hcz17_0 : wr.cell? ⟨gb196, 0, none⟩ = some (.int .i16 a0_0) := (blk_cell BK196.out 0).trans rfl
              have hcz17_1 : wr.cell? ⟨gb196, 1, none⟩ = some (.int .i16 a0_1) := (blk_cell BK196.out 1).trans rfl
              have hfz17_0 := blk_frozen BK196.out 0
              have hfz17_1 := blk_frozen BK196.out 1
              have hcz18_0 : wr.cell? ⟨gb197, 0, none⟩ = some (.int .i16 a1_0) := (blk_cell BK197.out 0).trans rfl
              have hcz18_1 : wr.cell? ⟨gb197, 1, none⟩ = some (.int .i16 a1_1) := (blk_cell BK197.out 1).trans rfl
              have hfz18_0 := blk_frozen BK197.out 0
              have hfz18_1 := blk_frozen BK197.out 1
              go_wp2
              repeat (go_quiet (fail); try go_wp2)
              any_goals (first | (exfalso; (try simp only [decide_eq_true_eq, decide_eq_false_iff_not] at *); omega) | skip)
              go_roundg k1
              case measure => have := HK1.out; omega
              case rel => exact ⟨(wrap64 (x5_1 + 1)), (by first | rfl | (simp; done) | (simp [*]; done)), H', ⟨by have := HK1.out; omega⟩, ⟨by (with_reducible repeat (first | refine blk_drewN ?_ _ | refine blk_drew ?_ | refine blk_alloc ?_ _)); exact BK196.out⟩, ⟨by (with_reducible repeat (first | refine blk_drewN ?_ _ | refine blk_drew ?_ | refine blk_alloc ?_ _)); exact BK197.out⟩, ⟨by repeat (first | (with_reducible first | exact HB.out | apply below_alloc | apply pw_below_drewN | apply below_drew1 | refine below_set ?_ GE196.out | refine below_set ?_ GE197.out) | exact HB.out)⟩⟩
            · rw [if_neg c15] at H
              have c15b0 : (a0_1 == a1_1) = false := beq_eq_false_iff_ne.mpr c15
              have c15b1 : (a0_1 != a1_1) = true := bne_iff_ne.mpr c15
              obtain rfl := Option.some.inj H
              have hnb19 := NB196_197.out
              have hnc19 := NB197_196.out
              have hcz20_0 : wr.cell? ⟨gb196, 0, none⟩ = some (.int .i16 a0_0) := (blk_cell BK196.out 0).trans rfl
              have hcz20_1 : wr.cell? ⟨gb196, 1, none⟩ = some (.int .i16 a0_1) := (blk_cell BK196.out 1).trans rfl
              have hfz20_0 := blk_frozen BK196.out 0
              have hfz20_1 := blk_frozen BK196.out 1
              have hcz21_0 : wr.cell? ⟨gb197, 0, none⟩ = some (.int .i16 a1_0) := (blk_cell BK197.out 0).trans rfl
              have hcz21_1 : wr.cell? ⟨gb197, 1, none⟩ = some (.int .i16 a1_1) := (blk_cell BK197.out 1).trans rfl
              have hfz21_0 := blk_frozen BK197.out 0
              have hfz21_1 := blk_frozen BK197.out 1
              go_wp2
              repeat (go_quiet (fail); try go_wp2)
              any_goals (first | (exfalso; (try simp only [decide_eq_true_eq, decide_eq_false_iff_not] at *); omega) | skip)
              go_ret
              exact ⟨by first | rfl | (simp [errW_none, errW_some] <;> rfl) | (simp [*, errW_none, errW_some] <;> rfl), by repeat (first | (with_reducible first | exact HB.out | apply below_alloc | apply pw_below_drewN | apply below_drew1 | refine below_set ?_ GE196.out | refine below_set ?_ GE197.out) | exact HB.out)⟩
          · rw [if_neg c14] at H
            exact absurd H (by simp)
      · rw [if_neg c5] at H
        have c5b0 : decide (x5_1 < 2) = false := decide_eq_false c5
        clear c5
        obtain rfl := Option.some.inj H
        go_wp2
        repeat (go_quiet (fail); try go_wp2)
        any_goals (first | (exfalso; (try simp only [decide_eq_true_eq, decide_eq_false_iff_not] at *); omega) | skip)
        go_ret
        exact ⟨by first | rfl | (simp [errW_none, errW_some] <;> rfl) | (simp [*, errW_none, errW_some] <;> rfl), by repeat (first | (with_reducible first | exact HB.out | apply below_alloc | apply pw_below_drewN | apply below_drew1 | refine below_set ?_ GE196.out | refine below_set ?_ GE197.out) | exact HB.out)⟩

end Go.Proofs.Ytkgeppbjfkhjcaa.XFnExactDrawStrokes
