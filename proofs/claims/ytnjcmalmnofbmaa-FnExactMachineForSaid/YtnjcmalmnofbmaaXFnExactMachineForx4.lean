/- Printed by this repository's own program (wip/tools/xprint.py) for the law FnExactMachineFor: Lean functions that say what the Go functions compute, and the proofs that the machine comes to just that; no condition beyond those in each statement. -/
import Derived.Test.YtnjcmalmnofbmaaXFnExactMachineForx0
import Derived.Test.YtnjcmalmnofbmaaXFnExactMachineForx3
namespace Go.Proofs.Ytnjcmalmnofbmaa.XFnExactMachineFor
open Go.RowKit Go.Proofs.YtnjcmalmnofbmaaW.PrintWords Go.Proofs.YtnjcmalmnofbmaaW.PrintLast Go.Proofs.YtnjcmalmnofbmaaW.PrintMore
attribute [local go_sem] max2_int min2_int max_two min_two max_three min_three max_four min_four   -- for this text's walks alone
set_option linter.unusedVariables false
set_option linter.unusedSimpArgs false

set_option maxHeartbeats 8000000 in
set_option maxRecDepth 100000 in
theorem impl_machineFor.calls (k : Nat) (A0 : Option Addr) (c0 : Nat) (l0 : List (S118)) (a1 : Int) (r1 : List Int) (r2 : List Int) (r3 : List Int) (w : World) (hr0 : Kd.C k118 w A0 l0.length l0) (hc0 : l0.length ≤ c0) (h : impl_machineFor.f k l0 a1 = some (r1, r2, r3)) :
    Calls Try.prog 121 #[.slice A0 l0.length c0, .int .i64 a1] w fun e w' => ∃ v0_ v1_ v2_ : Value, e = .returned (.agg #[v0_, v1_, v2_]) ∧ Kd.R (Kd.int .i16) 38 w' w.heap.size (fun k_ => some k_ ≠ (v1_ : Value).ownBlock ∧ some k_ ≠ (v2_ : Value).ownBlock) v0_ r1 ∧ Kd.R (Kd.int .i16) 38 w' w.heap.size (fun k_ => some k_ ≠ (v0_ : Value).ownBlock ∧ some k_ ≠ (v2_ : Value).ownBlock) v1_ r2 ∧ Kd.R (Kd.int .i16) 38 w' w.heap.size (fun k_ => some k_ ≠ (v0_ : Value).ownBlock ∧ some k_ ≠ (v1_ : Value).ownBlock) v2_ r3 ∧ Below w.heap.size w w' := by
 have hu29 := Try.underlying29
 have hu118 := Try.underlying118
 have hu74 := Try.underlying74
 have HR0 := Aside0.mk hr0
 have HC0 := Aside0.mk hc0
 clear hr0 hc0
 have HB := Aside0.mk (Below.refl w.heap.size w)
 have H : (impl_machineFor.l0 k l0 a1 0 ([] : List Int) ([] : List Int) ([] : List Int)) = some (r1, r2, r3) := h
 clear h
 have H' := Aside0.mk H
 clear H
 go_enter Try.func121, Try.ntmps121
 go_wp2_with (first | ((with_reducible refine gate_dst (N := 4) rfl ?_); refine box_event ?hg (N := 4) ?hd (cs := #[.slice none 0 0, .slice none 0 0, .slice none 0 0]) (t := 29) ?hr ?_; (case hd => rfl); (case hg => rfl); (case hr => exact a142_); intro gb194 hg w3 hbox hb; have n0_ := Aside0.mk (below_step a111_ hb); have n1_ := Aside0.mk (hbox); have n2_ := Aside0.mk ((by rw [hg]; exact (below_size a111_) : w.heap.size ≤ gb194)); have n3_ := Aside0.mk ((by rw [hg]; exact (below_size a111_) : w.heap.size ≤ gb194)); clear HB; have HB := n0_; have BK194 := n1_; have GW194 := n2_; have GE194 := n3_; clear n0_ n1_ n2_ n3_; clear hb hbox hg) | ((with_reducible refine gate_dst (N := 5) rfl ?_); refine box_event ?hg (N := 5) ?hd (cs := #[.slice none 0 0, .slice none 0 0, .slice none 0 0]) (t := 29) ?hr ?_; (case hd => rfl); (case hg => rfl); (case hr => exact a142_); intro gb195 hg w4 hbox hb; have n0_ := Aside0.mk (blk_below (g := gb194) a89_ hb); have n1_ := Aside0.mk (below_step a107_ hb); have n2_ := Aside0.mk (hbox); have n3_ := Aside0.mk ((by rw [hg]; exact (below_size a107_) : w.heap.size ≤ gb195)); have n4_ := Aside0.mk ((by rw [hg]; exact (below_size a107_) : w.heap.size ≤ gb195)); have n5_ := Aside0.mk ((a140_ : gb194 ≠ gb195)); have n6_ := Aside0.mk ((a141_ : gb195 ≠ gb194)); clear BK194; clear HB; have BK194 := n0_; have HB := n1_; have BK195 := n2_; have GW195 := n3_; have GE195 := n4_; have NB194_195 := n5_; have NB195_194 := n6_; clear n0_ n1_ n2_ n3_ n4_ n5_ n6_; clear hb hbox hg; have hnb5 := NB195_194.out; have hnc5 := NB194_195.out; have hcz6_0 : w4.cell? ⟨gb195, 0, none⟩ = some (.slice none 0 0) := (blk_cell BK195.out 0).trans rfl; have hcz6_1 : w4.cell? ⟨gb195, 1, none⟩ = some (.slice none 0 0) := (blk_cell BK195.out 1).trans rfl; have hcz6_2 : w4.cell? ⟨gb195, 2, none⟩ = some (.slice none 0 0) := (blk_cell BK195.out 2).trans rfl; have hfz6_0 := blk_frozen BK195.out 0; have hfz6_1 := blk_frozen BK195.out 1; have hfz6_2 := blk_frozen BK195.out 2))
 go_loopg [11] k (fun kq v11 w' => ∃ (x11_1 : Int) (x196000_1 : List Int) (x196001_1 : List Int) (x196002_1 : List Int) (u196000 : Value) (u196001 : Value) (u196002 : Value), v11 = .int .i64 x11_1 ∧ Aside0 (impl_machineFor.l0 kq l0 a1 x11_1 x196000_1 x196001_1 x196002_1 = some (r1, r2, r3)) ∧ Aside0 (kq ≤ k) ∧ Aside0 (Kd.R (Kd.int .i16) 38 w' w.heap.size (fun k_ => some k_ ≠ (u196001 : Value).ownBlock ∧ some k_ ≠ (u196002 : Value).ownBlock) u196000 x196000_1) ∧ Aside0 (Kd.R (Kd.int .i16) 38 w' w.heap.size (fun k_ => some k_ ≠ (u196000 : Value).ownBlock ∧ some k_ ≠ (u196002 : Value).ownBlock) u196001 x196001_1) ∧ Aside0 (Kd.R (Kd.int .i16) 38 w' w.heap.size (fun k_ => some k_ ≠ (u196000 : Value).ownBlock ∧ some k_ ≠ (u196001 : Value).ownBlock) u196002 x196002_1) ∧ Aside0 (w'.heap[gb194]? = some (.cells #[(.slice none 0 0), (.slice none 0 0), (.slice none 0 0)] 29 (0, 0))) ∧ Aside0 (w'.heap[gb195]? = some (.cells #[u196000, u196001, u196002] 29 (0, 0))) ∧ Aside0 (Below w.heap.size w w'))
 case atStart => exact ⟨(0), (([] : List Int)), (([] : List Int)), (([] : List Int)), (.slice none 0 0), (.slice none 0 0), (.slice none 0 0), a139_, H', ⟨Nat.le_refl _⟩, ⟨by first | exact Kd.R_nil _ _ _ _ _ | exact Kd.N_nil _ _ _ _ _ | exact Kd.V_nil _ _ _ _ _ | exact Kd.Q_nil _ _ _ _ _ | exact Kd.S_nil _ _ _ _ _⟩, ⟨by first | exact Kd.R_nil _ _ _ _ _ | exact Kd.N_nil _ _ _ _ _ | exact Kd.V_nil _ _ _ _ _ | exact Kd.Q_nil _ _ _ _ _ | exact Kd.S_nil _ _ _ _ _⟩, ⟨by first | exact Kd.R_nil _ _ _ _ _ | exact Kd.N_nil _ _ _ _ _ | exact Kd.V_nil _ _ _ _ _ | exact Kd.Q_nil _ _ _ _ _ | exact Kd.S_nil _ _ _ _ _⟩, ⟨by (with_reducible repeat (first | refine blk_drewN ?_ _ | refine blk_drew ?_ | refine blk_alloc ?_ _)); refine blk_far ?_ NB194_195.out _; (with_reducible repeat (first | refine blk_drewN ?_ _ | refine blk_drew ?_ | refine blk_alloc ?_ _)); refine blk_far ?_ NB194_195.out _; (with_reducible repeat (first | refine blk_drewN ?_ _ | refine blk_drew ?_ | refine blk_alloc ?_ _)); refine blk_far ?_ NB194_195.out _; (with_reducible repeat (first | refine blk_drewN ?_ _ | refine blk_drew ?_ | refine blk_alloc ?_ _)); exact BK194.out⟩, ⟨by (with_reducible repeat (first | refine blk_drewN ?_ _ | refine blk_drew ?_ | refine blk_alloc ?_ _)); refine blk_put (cs := #[.slice none 0 0, .slice none 0 0, .slice none 0 0]) ?_ 2 _ rfl; (with_reducible repeat (first | refine blk_drewN ?_ _ | refine blk_drew ?_ | refine blk_alloc ?_ _)); refine blk_put (cs := #[.slice none 0 0, .slice none 0 0, .slice none 0 0]) ?_ 1 _ rfl; (with_reducible repeat (first | refine blk_drewN ?_ _ | refine blk_drew ?_ | refine blk_alloc ?_ _)); refine blk_put (cs := #[.slice none 0 0, .slice none 0 0, .slice none 0 0]) ?_ 0 _ rfl; (with_reducible repeat (first | refine blk_drewN ?_ _ | refine blk_drew ?_ | refine blk_alloc ?_ _)); exact BK195.out⟩, ⟨by repeat (first | (with_reducible first | exact HB.out | apply below_alloc | apply pw_below_drewN | apply below_drew1 | refine below_set ?_ GE194.out | refine below_set ?_ GE195.out) | exact HB.out)⟩⟩
 case round =>
  clear H'
  try clear c1
  try clear p2
  try clear c5
  try clear hcz6_0
  try clear hcz6_1
  try clear hcz6_2
  try clear hfz6_0
  try clear hfz6_1
  try clear hfz6_2
  obtain ⟨x11_1, x196000_1, x196001_1, x196002_1, u196000, u196001, u196002, rfl, HA, HK1, HO_196000, HO_196001, HO_196002, BK194, BK195, HB⟩ := hrel
  cases gk with
  | zero => exact absurd HA.out (by simp [impl_machineFor.l0])
  | succ k1 =>
   have H := HA.out
   clear HA
   simp only [impl_machineFor.l0] at H
   by_cases c7 : x11_1 < a1
   ·rw [if_pos c7] at H
    have c7b0 : decide (x11_1 < a1) = true := decide_eq_true c7
    clear c7
    replace H := Option.bind_eq_some_iff.mp H
    obtain ⟨t197, A80, H⟩ := H
    replace H : (if t197 = true then (if 0 ≤ x11_1 then (if x11_1 < (l0.length : Int) then (impl_machineFor.j1 k1 l0 a1 x11_1 x196000_1 x196001_1 x196002_1 ((rd_T118 l0 x11_1).f0.f0) ((rd_T118 l0 x11_1).f0.f1) ((rd_T118 l0 x11_1).f1)) else (none)) else (none)) else (impl_machineFor.j1 k1 l0 a1 x11_1 x196000_1 x196001_1 x196002_1 0 0 false)) = some (r1, r2, r3) := H
    have A8 := Aside0.mk A80
    clear A80
    have HC9 := Aside0.mk H
    clear H
    go_upto_if 18 with (first | ((with_reducible refine gate_dst (N := 7) rfl ?_); refine box_event ?hg (N := 7) ?hd (cs := #[.int .i16 0, .int .i16 0, .bool false]) (t := 118) ?hr ?_; (case hd => rfl); (case hg => rfl); (case hr => exact a142_); intro gb196 hg w10 hbox hb; have n0_ := Aside0.mk (Kd.R_below a95_ hb); have n1_ := Aside0.mk (Kd.R_below a94_ hb); have n2_ := Aside0.mk (Kd.R_below a93_ hb); have n3_ := Aside0.mk (blk_below (g := gb194) a89_ hb); have n4_ := Aside0.mk (blk_below (g := gb195) a90_ hb); have n5_ := Aside0.mk (below_step a100_ hb); have n6_ := Aside0.mk (hbox); have n7_ := Aside0.mk ((by rw [hg]; exact (below_size a100_) : w.heap.size ≤ gb196)); have n8_ := Aside0.mk ((by rw [hg]; exact (below_size a100_) : w.heap.size ≤ gb196)); have n9_ := Aside0.mk ((a140_ : gb194 ≠ gb196)); have n10_ := Aside0.mk ((a141_ : gb196 ≠ gb194)); have n11_ := Aside0.mk ((by rw [hg]; exact Nat.ne_of_lt (blk_lt (g := gb195) (o := .cells #[u196000, u196001, u196002] 29 (0, 0)) a90_) : gb195 ≠ gb196)); have n12_ := Aside0.mk ((by rw [hg]; exact Nat.ne_of_gt (blk_lt (g := gb195) (o := .cells #[u196000, u196001, u196002] 29 (0, 0)) a90_) : gb196 ≠ gb195)); clear HO_196000; clear HO_196001; clear HO_196002; clear BK194; clear BK195; clear HB; have HO_196000 := n0_; have HO_196001 := n1_; have HO_196002 := n2_; have BK194 := n3_; have BK195 := n4_; have HB := n5_; have BK196 := n6_; have GW196 := n7_; have GE196 := n8_; have NB194_196 := n9_; have NB196_194 := n10_; have NB195_196 := n11_; have NB196_195 := n12_; clear n0_ n1_ n2_ n3_ n4_ n5_ n6_ n7_ n8_ n9_ n10_ n11_ n12_; clear hb hbox hg; have hnb11 := NB196_194.out; have hnc11 := NB194_196.out; have hnb12 := NB196_195.out; have hnc12 := NB195_196.out; have hcz13_0 : w10.cell? ⟨gb196, 0, none⟩ = some (.int .i16 0) := (blk_cell BK196.out 0).trans rfl; have hcz13_1 : w10.cell? ⟨gb196, 1, none⟩ = some (.int .i16 0) := (blk_cell BK196.out 1).trans rfl; have hcz13_2 : w10.cell? ⟨gb196, 2, none⟩ = some (.bool false) := (blk_cell BK196.out 2).trans rfl; have hfz13_0 := blk_frozen BK196.out 0; have hfz13_1 := blk_frozen BK196.out 1; have hfz13_2 := blk_frozen BK196.out 2) | ((with_reducible refine gate_callee (f := 133) rfl ?_); refine goesL_ (some 18) rfl rfl Try.func133 (by kernel_rfl) rfl #[.int .i64 x11_1, .int .i64 (l0.length : Int)] rfl (by (try simp only [List.map_toArray, List.map_cons, List.map_nil]); first | done | rfl | (simp only [List.length_drop, List.length_take]; rfl)) ?_; (with_reducible refine (impl_isPlace.calls x11_1 (l0.length : Int) t197 _ A8.out).mono ?_); rintro e w' ⟨rfl, ⟨nd, rfl⟩⟩; refine ⟨_, rfl, ?_⟩))
    (try simp only [Act.put, List.setIfInBounds_toArray, List.set_cons_zero, List.set_cons_succ])
    go_cut [] (fun wc => ∃ (kq : Nat) (x197000_8 : Int) (x197001_8 : Int) (x197002_8 : Bool), Aside0 (impl_machineFor.j1 kq l0 a1 x11_1 x196000_1 x196001_1 x196002_1 x197000_8 x197001_8 x197002_8 = some (r1, r2, r3)) ∧ Aside0 (kq ≤ k1) ∧ Aside0 (Kd.R (Kd.int .i16) 38 wc w.heap.size (fun k_ => some k_ ≠ (u196001 : Value).ownBlock ∧ some k_ ≠ (u196002 : Value).ownBlock) u196000 x196000_1) ∧ Aside0 (Kd.R (Kd.int .i16) 38 wc w.heap.size (fun k_ => some k_ ≠ (u196000 : Value).ownBlock ∧ some k_ ≠ (u196002 : Value).ownBlock) u196001 x196001_1) ∧ Aside0 (Kd.R (Kd.int .i16) 38 wc w.heap.size (fun k_ => some k_ ≠ (u196000 : Value).ownBlock ∧ some k_ ≠ (u196001 : Value).ownBlock) u196002 x196002_1) ∧ Aside0 (wc.heap[gb194]? = some (.cells #[(.slice none 0 0), (.slice none 0 0), (.slice none 0 0)] 29 (0, 0))) ∧ Aside0 (wc.heap[gb195]? = some (.cells #[u196000, u196001, u196002] 29 (0, 0))) ∧ Aside0 (wc.heap[gb196]? = some (.cells #[.int .i16 x197000_8, .int .i16 x197001_8, .bool x197002_8] 118 (0, 0))) ∧ Aside0 (Below w.heap.size w wc))
    case first =>
     have H := HC9.out
     clear HC9
     by_cases c14 : t197 = true
     ·subst c14
      have H1 : (if 0 ≤ x11_1 then (if x11_1 < (l0.length : Int) then (impl_machineFor.j1 k1 l0 a1 x11_1 x196000_1 x196001_1 x196002_1 ((rd_T118 l0 x11_1).f0.f0) ((rd_T118 l0 x11_1).f0.f1) ((rd_T118 l0 x11_1).f1)) else (none)) else (none)) = some (r1, r2, r3) := by rw [if_pos rfl] at H; exact H
      clear H
      have H := H1
      clear H1
      by_cases c15 : 0 ≤ x11_1
      ·rw [if_pos c15] at H
       have c15b0 : decide (0 ≤ x11_1) = true := decide_eq_true c15
       clear c15
       (first | rw [c15b0] | (simp only [i64_w, i32_w]; rw [c15b0]) | skip)
       by_cases c16 : x11_1 < (l0.length : Int)
       ·rw [if_pos c16] at H
        have c16b0 : decide (x11_1 < (l0.length : Int)) = true := decide_eq_true c16
        clear c16
        have H' := Aside0.mk H
        clear H
        have p198 : 0 ≤ (x11_1 : Int) := of_decide_eq_true (by first | (with_reducible assumption) | assumption)
        have q198 : x11_1 < (l0.length : Int) := of_decide_eq_true (by first | (with_reducible assumption) | assumption)
        obtain ⟨ad198, e198, hx198_0, hx198_1, hx198_2⟩ := at_T118 HR0.out x11_1 p198 q198
        cases e198
        have hn198_0 : ad198.block ≠ gb196 := Nat.ne_of_lt (Nat.lt_of_lt_of_le a138_ GW196.out)
        have hn198_1 : ad198.block ≠ gb196 := Nat.ne_of_lt (Nat.lt_of_lt_of_le a138_ GW196.out)
        have hn198_2 : ad198.block ≠ gb196 := Nat.ne_of_lt (Nat.lt_of_lt_of_le a138_ GW196.out)
        replace hx198_0 := (HB.out.cell (World.block_lt_of_cell? w _ hx198_0)).trans hx198_0
        replace hx198_1 := (HB.out.cell (World.block_lt_of_cell? w _ hx198_1)).trans hx198_1
        replace hx198_2 := (HB.out.cell (World.block_lt_of_cell? w _ hx198_2)).trans hx198_2
        replace hx198_0 := (cell_far (p := ⟨gb196, 0, none⟩) a116_ (.int .i16 0)).trans hx198_0
        replace hx198_1 := (cell_far (p := ⟨gb196, 0, none⟩) a116_ (.int .i16 0)).trans hx198_1
        replace hx198_2 := (cell_far (p := ⟨gb196, 0, none⟩) a116_ (.int .i16 0)).trans hx198_2
        replace hx198_0 := (cell_far (p := ⟨gb196, 1, none⟩) a117_ (.int .i16 0)).trans hx198_0
        replace hx198_1 := (cell_far (p := ⟨gb196, 1, none⟩) a117_ (.int .i16 0)).trans hx198_1
        replace hx198_2 := (cell_far (p := ⟨gb196, 1, none⟩) a117_ (.int .i16 0)).trans hx198_2
        replace hx198_0 := (cell_far (p := ⟨gb196, 2, none⟩) a118_ (.bool false)).trans hx198_0
        replace hx198_1 := (cell_far (p := ⟨gb196, 2, none⟩) a118_ (.bool false)).trans hx198_1
        replace hx198_2 := (cell_far (p := ⟨gb196, 2, none⟩) a118_ (.bool false)).trans hx198_2
        clear hn198_0 hn198_1 hn198_2
        replace p198 := eq_true p198
        replace q198 := eq_true q198
        have hnb17 := NB196_194.out
        have hnc17 := NB194_196.out
        have hnb18 := NB196_195.out
        have hnc18 := NB195_196.out
        have hcz19_0 : w10.cell? ⟨gb196, 0, none⟩ = some (.int .i16 0) := (blk_cell BK196.out 0).trans rfl
        have hcz19_1 : w10.cell? ⟨gb196, 1, none⟩ = some (.int .i16 0) := (blk_cell BK196.out 1).trans rfl
        have hcz19_2 : w10.cell? ⟨gb196, 2, none⟩ = some (.bool false) := (blk_cell BK196.out 2).trans rfl
        have hfz19_0 := blk_frozen BK196.out 0
        have hfz19_1 := blk_frozen BK196.out 1
        have hfz19_2 := blk_frozen BK196.out 2
        go_wp2
        go_meet
        case rel => exact ⟨_, ((rd_T118 l0 x11_1).f0.f0), ((rd_T118 l0 x11_1).f0.f1), ((rd_T118 l0 x11_1).f1), H', ⟨by have := HK1.out; first | omega | exact Nat.le_refl _⟩, ⟨by (with_reducible repeat (first | apply Kd.R_alloc | apply Kd.R_drewN | apply Kd.R_drew)); exact Kd.R_mono (Kd.R_far (p := ⟨gb196, 2, none⟩) (Kd.R_far (p := ⟨gb196, 1, none⟩) (Kd.R_far (p := ⟨gb196, 0, none⟩) (Kd.R_far (p := ⟨gb196, 2, none⟩) (Kd.R_far (p := ⟨gb196, 1, none⟩) (Kd.R_far (p := ⟨gb196, 0, none⟩) (Kd.R_types HO_196000.out BK196.out (by decide)) (fun _ hk => hk.2) (.int .i16 0)) (fun _ hk => hk.2) (.int .i16 0)) (fun _ hk => hk.2) (.bool false)) (fun _ hk => hk.2) (.int .i16 ((rd_T118 l0 x11_1).f0.f0))) (fun _ hk => hk.2) (.int .i16 ((rd_T118 l0 x11_1).f0.f1))) (fun _ hk => hk.2) (.bool ((rd_T118 l0 x11_1).f1))) (fun _ hk => ⟨hk.1.1, hk.1.2⟩)⟩, ⟨by (with_reducible repeat (first | apply Kd.R_alloc | apply Kd.R_drewN | apply Kd.R_drew)); exact Kd.R_mono (Kd.R_far (p := ⟨gb196, 2, none⟩) (Kd.R_far (p := ⟨gb196, 1, none⟩) (Kd.R_far (p := ⟨gb196, 0, none⟩) (Kd.R_far (p := ⟨gb196, 2, none⟩) (Kd.R_far (p := ⟨gb196, 1, none⟩) (Kd.R_far (p := ⟨gb196, 0, none⟩) (Kd.R_types HO_196001.out BK196.out (by decide)) (fun _ hk => hk.2) (.int .i16 0)) (fun _ hk => hk.2) (.int .i16 0)) (fun _ hk => hk.2) (.bool false)) (fun _ hk => hk.2) (.int .i16 ((rd_T118 l0 x11_1).f0.f0))) (fun _ hk => hk.2) (.int .i16 ((rd_T118 l0 x11_1).f0.f1))) (fun _ hk => hk.2) (.bool ((rd_T118 l0 x11_1).f1))) (fun _ hk => ⟨hk.1.1, hk.1.2⟩)⟩, ⟨by (with_reducible repeat (first | apply Kd.R_alloc | apply Kd.R_drewN | apply Kd.R_drew)); exact Kd.R_mono (Kd.R_far (p := ⟨gb196, 2, none⟩) (Kd.R_far (p := ⟨gb196, 1, none⟩) (Kd.R_far (p := ⟨gb196, 0, none⟩) (Kd.R_far (p := ⟨gb196, 2, none⟩) (Kd.R_far (p := ⟨gb196, 1, none⟩) (Kd.R_far (p := ⟨gb196, 0, none⟩) (Kd.R_types HO_196002.out BK196.out (by decide)) (fun _ hk => hk.2) (.int .i16 0)) (fun _ hk => hk.2) (.int .i16 0)) (fun _ hk => hk.2) (.bool false)) (fun _ hk => hk.2) (.int .i16 ((rd_T118 l0 x11_1).f0.f0))) (fun _ hk => hk.2) (.int .i16 ((rd_T118 l0 x11_1).f0.f1))) (fun _ hk => hk.2) (.bool ((rd_T118 l0 x11_1).f1))) (fun _ hk => ⟨hk.1.1, hk.1.2⟩)⟩, ⟨by (with_reducible repeat (first | refine blk_drewN ?_ _ | refine blk_drew ?_ | refine blk_alloc ?_ _)); refine blk_far ?_ NB194_196.out _; (with_reducible repeat (first | refine blk_drewN ?_ _ | refine blk_drew ?_ | refine blk_alloc ?_ _)); refine blk_far ?_ NB194_196.out _; (with_reducible repeat (first | refine blk_drewN ?_ _ | refine blk_drew ?_ | refine blk_alloc ?_ _)); refine blk_far ?_ NB194_196.out _; (with_reducible repeat (first | refine blk_drewN ?_ _ | refine blk_drew ?_ | refine blk_alloc ?_ _)); refine blk_far ?_ NB194_196.out _; (with_reducible repeat (first | refine blk_drewN ?_ _ | refine blk_drew ?_ | refine blk_alloc ?_ _)); refine blk_far ?_ NB194_196.out _; (with_reducible repeat (first | refine blk_drewN ?_ _ | refine blk_drew ?_ | refine blk_alloc ?_ _)); refine blk_far ?_ NB194_196.out _; (with_reducible repeat (first | refine blk_drewN ?_ _ | refine blk_drew ?_ | refine blk_alloc ?_ _)); exact BK194.out⟩, ⟨by (with_reducible repeat (first | refine blk_drewN ?_ _ | refine blk_drew ?_ | refine blk_alloc ?_ _)); refine blk_far ?_ NB195_196.out _; (with_reducible repeat (first | refine blk_drewN ?_ _ | refine blk_drew ?_ | refine blk_alloc ?_ _)); refine blk_far ?_ NB195_196.out _; (with_reducible repeat (first | refine blk_drewN ?_ _ | refine blk_drew ?_ | refine blk_alloc ?_ _)); refine blk_far ?_ NB195_196.out _; (with_reducible repeat (first | refine blk_drewN ?_ _ | refine blk_drew ?_ | refine blk_alloc ?_ _)); refine blk_far ?_ NB195_196.out _; (with_reducible repeat (first | refine blk_drewN ?_ _ | refine blk_drew ?_ | refine blk_alloc ?_ _)); refine blk_far ?_ NB195_196.out _; (with_reducible repeat (first | refine blk_drewN ?_ _ | refine blk_drew ?_ | refine blk_alloc ?_ _)); refine blk_far ?_ NB195_196.out _; (with_reducible repeat (first | refine blk_drewN ?_ _ | refine blk_drew ?_ | refine blk_alloc ?_ _)); exact BK195.out⟩, ⟨by (with_reducible repeat (first | refine blk_drewN ?_ _ | refine blk_drew ?_ | refine blk_alloc ?_ _)); refine blk_put (cs := #[.int .i16 ((rd_T118 l0 x11_1).f0.f0), .int .i16 ((rd_T118 l0 x11_1).f0.f1), .bool false]) ?_ 2 _ rfl; (with_reducible repeat (first | refine blk_drewN ?_ _ | refine blk_drew ?_ | refine blk_alloc ?_ _)); refine blk_put (cs := #[.int .i16 ((rd_T118 l0 x11_1).f0.f0), .int .i16 0, .bool false]) ?_ 1 _ rfl; (with_reducible repeat (first | refine blk_drewN ?_ _ | refine blk_drew ?_ | refine blk_alloc ?_ _)); refine blk_put (cs := #[.int .i16 0, .int .i16 0, .bool false]) ?_ 0 _ rfl; (with_reducible repeat (first | refine blk_drewN ?_ _ | refine blk_drew ?_ | refine blk_alloc ?_ _)); refine blk_put (cs := #[.int .i16 0, .int .i16 0, .bool false]) ?_ 2 _ rfl; (with_reducible repeat (first | refine blk_drewN ?_ _ | refine blk_drew ?_ | refine blk_alloc ?_ _)); refine blk_put (cs := #[.int .i16 0, .int .i16 0, .bool false]) ?_ 1 _ rfl; (with_reducible repeat (first | refine blk_drewN ?_ _ | refine blk_drew ?_ | refine blk_alloc ?_ _)); refine blk_put (cs := #[.int .i16 0, .int .i16 0, .bool false]) ?_ 0 _ rfl; (with_reducible repeat (first | refine blk_drewN ?_ _ | refine blk_drew ?_ | refine blk_alloc ?_ _)); exact BK196.out⟩, ⟨by repeat (first | (with_reducible first | exact HB.out | apply below_alloc | apply pw_below_drewN | apply below_drew1 | refine below_set ?_ GE194.out | refine below_set ?_ GE195.out | refine below_set ?_ GE196.out) | exact HB.out)⟩⟩
       ·rw [if_neg c16] at H
        exact absurd H (by simp)
      ·rw [if_neg c15] at H
       exact absurd H (by simp)
     ·replace c14 := Bool.eq_false_iff.mpr c14
      subst c14
      have H1 : (impl_machineFor.j1 k1 l0 a1 x11_1 x196000_1 x196001_1 x196002_1 0 0 false) = some (r1, r2, r3) := by rw [if_neg (show ¬ (false = true) by decide)] at H; exact H
      clear H
      have H := H1
      clear H1
      have H' := Aside0.mk H
      clear H
      go_wp2
      go_meet
      case rel => exact ⟨_, (0), (0), (false), H', ⟨by have := HK1.out; first | omega | exact Nat.le_refl _⟩, ⟨by (with_reducible repeat (first | apply Kd.R_alloc | apply Kd.R_drewN | apply Kd.R_drew)); exact Kd.R_mono (Kd.R_far (p := ⟨gb196, 2, none⟩) (Kd.R_far (p := ⟨gb196, 1, none⟩) (Kd.R_far (p := ⟨gb196, 0, none⟩) (Kd.R_types HO_196000.out BK196.out (by decide)) (fun _ hk => hk.2) (.int .i16 0)) (fun _ hk => hk.2) (.int .i16 0)) (fun _ hk => hk.2) (.bool false)) (fun _ hk => ⟨hk.1.1, hk.1.2⟩)⟩, ⟨by (with_reducible repeat (first | apply Kd.R_alloc | apply Kd.R_drewN | apply Kd.R_drew)); exact Kd.R_mono (Kd.R_far (p := ⟨gb196, 2, none⟩) (Kd.R_far (p := ⟨gb196, 1, none⟩) (Kd.R_far (p := ⟨gb196, 0, none⟩) (Kd.R_types HO_196001.out BK196.out (by decide)) (fun _ hk => hk.2) (.int .i16 0)) (fun _ hk => hk.2) (.int .i16 0)) (fun _ hk => hk.2) (.bool false)) (fun _ hk => ⟨hk.1.1, hk.1.2⟩)⟩, ⟨by (with_reducible repeat (first | apply Kd.R_alloc | apply Kd.R_drewN | apply Kd.R_drew)); exact Kd.R_mono (Kd.R_far (p := ⟨gb196, 2, none⟩) (Kd.R_far (p := ⟨gb196, 1, none⟩) (Kd.R_far (p := ⟨gb196, 0, none⟩) (Kd.R_types HO_196002.out BK196.out (by decide)) (fun _ hk => hk.2) (.int .i16 0)) (fun _ hk => hk.2) (.int .i16 0)) (fun _ hk => hk.2) (.bool false)) (fun _ hk => ⟨hk.1.1, hk.1.2⟩)⟩, ⟨by (with_reducible repeat (first | refine blk_drewN ?_ _ | refine blk_drew ?_ | refine blk_alloc ?_ _)); refine blk_far ?_ NB194_196.out _; (with_reducible repeat (first | refine blk_drewN ?_ _ | refine blk_drew ?_ | refine blk_alloc ?_ _)); refine blk_far ?_ NB194_196.out _; (with_reducible repeat (first | refine blk_drewN ?_ _ | refine blk_drew ?_ | refine blk_alloc ?_ _)); refine blk_far ?_ NB194_196.out _; (with_reducible repeat (first | refine blk_drewN ?_ _ | refine blk_drew ?_ | refine blk_alloc ?_ _)); exact BK194.out⟩, ⟨by (with_reducible repeat (first | refine blk_drewN ?_ _ | refine blk_drew ?_ | refine blk_alloc ?_ _)); refine blk_far ?_ NB195_196.out _; (with_reducible repeat (first | refine blk_drewN ?_ _ | refine blk_drew ?_ | refine blk_alloc ?_ _)); refine blk_far ?_ NB195_196.out _; (with_reducible repeat (first | refine blk_drewN ?_ _ | refine blk_drew ?_ | refine blk_alloc ?_ _)); refine blk_far ?_ NB195_196.out _; (with_reducible repeat (first | refine blk_drewN ?_ _ | refine blk_drew ?_ | refine blk_alloc ?_ _)); exact BK195.out⟩, ⟨by (with_reducible repeat (first | refine blk_drewN ?_ _ | refine blk_drew ?_ | refine blk_alloc ?_ _)); refine blk_put (cs := #[.int .i16 0, .int .i16 0, .bool false]) ?_ 2 _ rfl; (with_reducible repeat (first | refine blk_drewN ?_ _ | refine blk_drew ?_ | refine blk_alloc ?_ _)); refine blk_put (cs := #[.int .i16 0, .int .i16 0, .bool false]) ?_ 1 _ rfl; (with_reducible repeat (first | refine blk_drewN ?_ _ | refine blk_drew ?_ | refine blk_alloc ?_ _)); refine blk_put (cs := #[.int .i16 0, .int .i16 0, .bool false]) ?_ 0 _ rfl; (with_reducible repeat (first | refine blk_drewN ?_ _ | refine blk_drew ?_ | refine blk_alloc ?_ _)); exact BK196.out⟩, ⟨by repeat (first | (with_reducible first | exact HB.out | apply below_alloc | apply pw_below_drewN | apply below_drew1 | refine below_set ?_ GE194.out | refine below_set ?_ GE195.out | refine below_set ?_ GE196.out) | exact HB.out)⟩⟩
    case rest =>
     clear HC9
     try clear c1
     try clear p1
     try clear q1
     try clear hx1
     try clear p2
     try clear c5
     try clear c7
     try clear c7b0
     try clear c11
     try clear c12
     try clear c13
     try clear c14
     try clear c15
     try clear c15b0
     try clear c16
     try clear c16b0
     try clear c17
     try clear c18
     try clear p19
     try clear q19
     try clear hx19
     try clear hcz13_0
     try clear hcz13_1
     try clear hcz13_2
     try clear hcz19_0
     try clear hcz19_1
     try clear hcz19_2
     try clear hcz6_0
     try clear hcz6_1
     try clear hcz6_2
     try clear hfz13_0
     try clear hfz13_1
     try clear hfz13_2
     try clear hfz19_0
     try clear hfz19_1
     try clear hfz19_2
     try clear hfz6_0
     try clear hfz6_1
     try clear hfz6_2
     try clear hx198_0
     try clear hx198_1
     try clear hx198_2
     try clear p198
     try clear p2
     try clear q198
     obtain ⟨kq, x197000_8, x197001_8, x197002_8, HA, HJ8, HO_196000, HO_196001, HO_196002, BK194, BK195, BK196, HB⟩ := hcut
     cases kq with
     | zero => exact absurd HA.out (by simp [impl_machineFor.j1])
     | succ kj8 =>
      have H := HA.out
      clear HA
      simp only [impl_machineFor.j1] at H
      have HC20 := Aside0.mk H
      clear H
      have hnb21 := NB196_194.out
      have hnc21 := NB194_196.out
      have hnb22 := NB196_195.out
      have hnc22 := NB195_196.out
      have hcz23_0 : wc.cell? ⟨gb196, 0, none⟩ = some (.int .i16 x197000_8) := (blk_cell BK196.out 0).trans rfl
      have hcz23_1 : wc.cell? ⟨gb196, 1, none⟩ = some (.int .i16 x197001_8) := (blk_cell BK196.out 1).trans rfl
      have hcz23_2 : wc.cell? ⟨gb196, 2, none⟩ = some (.bool x197002_8) := (blk_cell BK196.out 2).trans rfl
      have hfz23_0 := blk_frozen BK196.out 0
      have hfz23_1 := blk_frozen BK196.out 1
      have hfz23_2 := blk_frozen BK196.out 2
      go_upto_if 24 with (fail)
      go_cut [8] (fun v8 wc => ∃ (kq : Nat) (x8_19 : Int), v8 = .int .i16 x8_19 ∧ Aside0 (impl_machineFor.j2 kq l0 x8_19 a1 x11_1 x196000_1 x196001_1 x196002_1 x197000_8 x197001_8 x197002_8 = some (r1, r2, r3)) ∧ Aside0 (kq ≤ kj8) ∧ Aside0 (Kd.R (Kd.int .i16) 38 wc w.heap.size (fun k_ => some k_ ≠ (u196001 : Value).ownBlock ∧ some k_ ≠ (u196002 : Value).ownBlock) u196000 x196000_1) ∧ Aside0 (Kd.R (Kd.int .i16) 38 wc w.heap.size (fun k_ => some k_ ≠ (u196000 : Value).ownBlock ∧ some k_ ≠ (u196002 : Value).ownBlock) u196001 x196001_1) ∧ Aside0 (Kd.R (Kd.int .i16) 38 wc w.heap.size (fun k_ => some k_ ≠ (u196000 : Value).ownBlock ∧ some k_ ≠ (u196001 : Value).ownBlock) u196002 x196002_1) ∧ Aside0 (wc.heap[gb194]? = some (.cells #[(.slice none 0 0), (.slice none 0 0), (.slice none 0 0)] 29 (0, 0))) ∧ Aside0 (wc.heap[gb195]? = some (.cells #[u196000, u196001, u196002] 29 (0, 0))) ∧ Aside0 (wc.heap[gb196]? = some (.cells #[.int .i16 x197000_8, .int .i16 x197001_8, .bool x197002_8] 118 (0, 0))) ∧ Aside0 (Below w.heap.size w wc))
      case first =>
       have H := HC20.out
       clear HC20
       by_cases c24 : x197002_8 = true
       ·subst c24
        have H1 : (impl_machineFor.j2 kj8 l0 0 a1 x11_1 x196000_1 x196001_1 x196002_1 x197000_8 x197001_8 true) = some (r1, r2, r3) := by rw [if_pos rfl] at H; exact H
        clear H
        have H := H1
        clear H1
        have H' := Aside0.mk H
        clear H
        go_wp2
        go_meet
        case rel => exact ⟨_, (0), a139_, H', ⟨by have := HK1.out; have := HJ8.out; first | omega | exact Nat.le_refl _⟩, ⟨by (with_reducible repeat (first | apply Kd.R_alloc | apply Kd.R_drewN | apply Kd.R_drew)); exact HO_196000.out⟩, ⟨by (with_reducible repeat (first | apply Kd.R_alloc | apply Kd.R_drewN | apply Kd.R_drew)); exact HO_196001.out⟩, ⟨by (with_reducible repeat (first | apply Kd.R_alloc | apply Kd.R_drewN | apply Kd.R_drew)); exact HO_196002.out⟩, ⟨by (with_reducible repeat (first | refine blk_drewN ?_ _ | refine blk_drew ?_ | refine blk_alloc ?_ _)); exact BK194.out⟩, ⟨by (with_reducible repeat (first | refine blk_drewN ?_ _ | refine blk_drew ?_ | refine blk_alloc ?_ _)); exact BK195.out⟩, ⟨by (with_reducible repeat (first | refine blk_drewN ?_ _ | refine blk_drew ?_ | refine blk_alloc ?_ _)); exact BK196.out⟩, ⟨by repeat (first | (with_reducible first | exact HB.out | apply below_alloc | apply pw_below_drewN | apply below_drew1 | refine below_set ?_ GE194.out | refine below_set ?_ GE195.out | refine below_set ?_ GE196.out) | exact HB.out)⟩⟩
       ·replace c24 := Bool.eq_false_iff.mpr c24
        subst c24
        have H1 : (impl_machineFor.j2 kj8 l0 1 a1 x11_1 x196000_1 x196001_1 x196002_1 x197000_8 x197001_8 false) = some (r1, r2, r3) := by rw [if_neg (show ¬ (false = true) by decide)] at H; exact H
        clear H
        have H := H1
        clear H1
        have H' := Aside0.mk H
        clear H
        go_wp2
        go_meet
        case rel => exact ⟨_, (1), a139_, H', ⟨by have := HK1.out; have := HJ8.out; first | omega | exact Nat.le_refl _⟩, ⟨by (with_reducible repeat (first | apply Kd.R_alloc | apply Kd.R_drewN | apply Kd.R_drew)); exact HO_196000.out⟩, ⟨by (with_reducible repeat (first | apply Kd.R_alloc | apply Kd.R_drewN | apply Kd.R_drew)); exact HO_196001.out⟩, ⟨by (with_reducible repeat (first | apply Kd.R_alloc | apply Kd.R_drewN | apply Kd.R_drew)); exact HO_196002.out⟩, ⟨by (with_reducible repeat (first | refine blk_drewN ?_ _ | refine blk_drew ?_ | refine blk_alloc ?_ _)); exact BK194.out⟩, ⟨by (with_reducible repeat (first | refine blk_drewN ?_ _ | refine blk_drew ?_ | refine blk_alloc ?_ _)); exact BK195.out⟩, ⟨by (with_reducible repeat (first | refine blk_drewN ?_ _ | refine blk_drew ?_ | refine blk_alloc ?_ _)); exact BK196.out⟩, ⟨by repeat (first | (with_reducible first | exact HB.out | apply below_alloc | apply pw_below_drewN | apply below_drew1 | refine below_set ?_ GE194.out | refine below_set ?_ GE195.out | refine below_set ?_ GE196.out) | exact HB.out)⟩⟩
      case rest =>
       clear HC20
       try clear c1
       try clear p1
       try clear q1
       try clear hx1
       try clear c2
       try clear p2
       try clear c5
       try clear c7
       try clear c7b0
       try clear c11
       try clear c12
       try clear c13
       try clear c14
       try clear c15
       try clear c15b0
       try clear c16
       try clear c16b0
       try clear c17
       try clear c18
       try clear p19
       try clear q19
       try clear hx19
       try clear c21
       try clear c22
       try clear c24
       try clear hcz13_0
       try clear hcz13_1
       try clear hcz13_2
       try clear hcz19_0
       try clear hcz19_1
       try clear hcz19_2
       try clear hcz23_0
       try clear hcz23_1
       try clear hcz23_2
       try clear hcz6_0
       try clear hcz6_1
       try clear hcz6_2
       try clear hfz13_0
       try clear hfz13_1
       try clear hfz13_2
       try clear hfz19_0
       try clear hfz19_1
       try clear hfz19_2
       try clear hfz23_0
       try clear hfz23_1
       try clear hfz23_2
       try clear hfz6_0
       try clear hfz6_1
       try clear hfz6_2
       try clear hx198_0
       try clear hx198_1
       try clear hx198_2
       try clear p1
       try clear p19
       try clear p198
       try clear p2
       try clear q1
       try clear q19
       try clear q198
       obtain ⟨kq, x8_19, rfl, HA, HJ19, HO_196000, HO_196001, HO_196002, BK194, BK195, BK196, HB⟩ := hcut
       cases kq with
       | zero => exact absurd HA.out (by simp [impl_machineFor.j2])
       | succ kj19 =>
        have H := HA.out
        clear HA
        simp only [impl_machineFor.j2] at H
        obtain ⟨y199, hy199⟩ : ∃ y_ : List Int, y_ = (([x197000_8] : List Int)) := ⟨_, rfl⟩
        replace H : (if x196000_1.length + y199.length < 70368744177664 then ((some (([x197001_8] : List Int) : List Int)).bind fun y205 => (if x196001_1.length + y205.length < 70368744177664 then ((some (([x8_19] : List Int) : List Int)).bind fun y211 => (if x196002_1.length + y211.length < 70368744177664 then (impl_machineFor.l0 kj19 l0 a1 (wrap64 (x11_1 + 1)) (x196000_1 ++ y199) (x196001_1 ++ y205) (x196002_1 ++ y211)) else (none))) else (none))) else (none)) = some (r1, r2, r3) := by first | (rw [hy199]; with_reducible exact H) | (have H2_ := (Option.bind_some _ _).symm.trans H; rw [hy199]; with_reducible exact H2_) | (have H2_ := (Option.bind_some _ _).symm.trans H; with_reducible exact H2_) | with_reducible exact H | (rw [hy199]; exact H) | exact H
        have Ny199 := Aside0.mk hy199
        clear hy199
        by_cases c25 : x196000_1.length + y199.length < 70368744177664
        ·rw [if_pos c25] at H
         have LMc25 := Aside0.mk c25
         clear c25
         obtain ⟨y202, hy202⟩ : ∃ y_ : List Int, y_ = (x196000_1 ++ y199) := ⟨_, rfl⟩
         replace H : ((some (([x197001_8] : List Int) : List Int)).bind fun y205 => (if x196001_1.length + y205.length < 70368744177664 then ((some (([x8_19] : List Int) : List Int)).bind fun y211 => (if x196002_1.length + y211.length < 70368744177664 then (impl_machineFor.l0 kj19 l0 a1 (wrap64 (x11_1 + 1)) y202 (x196001_1 ++ y205) (x196002_1 ++ y211)) else (none))) else (none))) = some (r1, r2, r3) := by first | (rw [hy202]; with_reducible exact H) | (have H2_ := (Option.bind_some _ _).symm.trans H; rw [hy202]; with_reducible exact H2_) | (have H2_ := (Option.bind_some _ _).symm.trans H; with_reducible exact H2_) | with_reducible exact H | (rw [hy202]; exact H) | exact H
         have Ny202 := Aside0.mk hy202
         clear hy202
         obtain ⟨y205, hy205⟩ : ∃ y_ : List Int, y_ = (([x197001_8] : List Int)) := ⟨_, rfl⟩
         replace H : (if x196001_1.length + y205.length < 70368744177664 then ((some (([x8_19] : List Int) : List Int)).bind fun y211 => (if x196002_1.length + y211.length < 70368744177664 then (impl_machineFor.l0 kj19 l0 a1 (wrap64 (x11_1 + 1)) y202 (x196001_1 ++ y205) (x196002_1 ++ y211)) else (none))) else (none)) = some (r1, r2, r3) := by first | (rw [hy205]; with_reducible exact H) | (have H2_ := (Option.bind_some _ _).symm.trans H; rw [hy205]; with_reducible exact H2_) | (have H2_ := (Option.bind_some _ _).symm.trans H; with_reducible exact H2_) | with_reducible exact H | (rw [hy205]; exact H) | exact H
         have Ny205 := Aside0.mk hy205
         clear hy205
         by_cases c26 : x196001_1.length + y205.length < 70368744177664
         ·rw [if_pos c26] at H
          have LMc26 := Aside0.mk c26
          clear c26
          obtain ⟨y208, hy208⟩ : ∃ y_ : List Int, y_ = (x196001_1 ++ y205) := ⟨_, rfl⟩
          replace H : ((some (([x8_19] : List Int) : List Int)).bind fun y211 => (if x196002_1.length + y211.length < 70368744177664 then (impl_machineFor.l0 kj19 l0 a1 (wrap64 (x11_1 + 1)) y202 y208 (x196002_1 ++ y211)) else (none))) = some (r1, r2, r3) := by first | (rw [hy208]; with_reducible exact H) | (have H2_ := (Option.bind_some _ _).symm.trans H; rw [hy208]; with_reducible exact H2_) | (have H2_ := (Option.bind_some _ _).symm.trans H; with_reducible exact H2_) | with_reducible exact H | (rw [hy208]; exact H) | exact H
          have Ny208 := Aside0.mk hy208
          clear hy208
          obtain ⟨y211, hy211⟩ : ∃ y_ : List Int, y_ = (([x8_19] : List Int)) := ⟨_, rfl⟩
          replace H : (if x196002_1.length + y211.length < 70368744177664 then (impl_machineFor.l0 kj19 l0 a1 (wrap64 (x11_1 + 1)) y202 y208 (x196002_1 ++ y211)) else (none)) = some (r1, r2, r3) := by first | (rw [hy211]; with_reducible exact H) | (have H2_ := (Option.bind_some _ _).symm.trans H; rw [hy211]; with_reducible exact H2_) | (have H2_ := (Option.bind_some _ _).symm.trans H; with_reducible exact H2_) | with_reducible exact H | (rw [hy211]; exact H) | exact H
          have Ny211 := Aside0.mk hy211
          clear hy211
          by_cases c27 : x196002_1.length + y211.length < 70368744177664
          ·rw [if_pos c27] at H
           have LMc27 := Aside0.mk c27
           clear c27
           obtain ⟨y214, hy214⟩ : ∃ y_ : List Int, y_ = (x196002_1 ++ y211) := ⟨_, rfl⟩
           replace H : (impl_machineFor.l0 kj19 l0 a1 (wrap64 (x11_1 + 1)) y202 y208 y214) = some (r1, r2, r3) := by first | (rw [hy214]; with_reducible exact H) | (have H2_ := (Option.bind_some _ _).symm.trans H; rw [hy214]; with_reducible exact H2_) | (have H2_ := (Option.bind_some _ _).symm.trans H; with_reducible exact H2_) | with_reducible exact H | (rw [hy214]; exact H) | exact H
           have Ny214 := Aside0.mk hy214
           clear hy214
           have H' := Aside0.mk H
           clear H
           obtain ⟨Ao28, co28, eo28⟩ := Kd.R_slice HO_196000.out
           subst eo28
           obtain ⟨Ao29, co29, eo29⟩ := Kd.R_slice HO_196001.out
           subst eo29
           obtain ⟨Ao30, co30, eo30⟩ := Kd.R_slice HO_196002.out
           subst eo30
           try go_wp2
           have n0_ := Aside0.mk (Kd.R_drew HO_196000.out)
           have n1_ := Aside0.mk (Kd.R_drew HO_196001.out)
           have n2_ := Aside0.mk (Kd.R_drew HO_196002.out)
           have n3_ := Aside0.mk (blk_drew BK194.out)
           have n4_ := Aside0.mk (blk_drew BK195.out)
           have n5_ := Aside0.mk (blk_drew BK196.out)
           have n6_ := Aside0.mk (below_drew1 HB.out)
           clear HO_196000 HO_196001 HO_196002 BK194 BK195 BK196 HB; have HO_196000 := n0_; have HO_196001 := n1_; have HO_196002 := n2_; have BK194 := n3_; have BK195 := n4_; have BK196 := n5_; have HB := n6_; clear n0_ n1_ n2_ n3_ n4_ n5_ n6_
           refine start_ (n := 25) (S := fun w' => w'.cell? ⟨gb195, 0, none⟩ = some (.slice Ao28 x196000_1.length co28) ∧ w'.cell? ⟨gb195, 1, none⟩ = some (.slice Ao29 x196001_1.length co29) ∧ w'.cell? ⟨gb195, 2, none⟩ = some (.slice Ao30 x196002_1.length co30) ∧ w'.cell? ⟨gb196, 0, none⟩ = some (.int .i16 x197000_8) ∧ w'.cell? ⟨gb196, 1, none⟩ = some (.int .i16 x197001_8) ∧ w'.cell? ⟨gb196, 2, none⟩ = some (.bool x197002_8)) (ds := [20, 22, 24]) #[false, false, false, false, false, false, false, false, false, false, false, false, false, false, false, false, false, false, false, false, false, false, false, false, false] (by kernel_rfl) rfl rfl ⟨(blk_cell BK195.out 0).trans rfl, (blk_cell BK195.out 1).trans rfl, (blk_cell BK195.out 2).trans rfl, (blk_cell BK196.out 0).trans rfl, (blk_cell BK196.out 1).trans rfl, (blk_cell BK196.out 2).trans rfl⟩ (fun hHeld => ?_); refine with_tabW impl_machineFor.tab11 impl_machineFor.bits11 (fun HT_ HW_ => ?_)
           generalize wc.drew = w31 at HO_196000 HO_196001 HO_196002 BK194 BK195 BK196 HB hHeld ⊢
           refine pure_ (i := 0) (N := some 25) (v := ?_) (a' := ?_) #[true, false, false, false, false, false, false, false, false, false, false, false, false, false, false, false, false, false, false, false, false, false, false, false, false] rfl rfl (any_of HT_.out (by kernel_rfl)) (fun _ _ _ h => h) (Or.inl ⟨by rfl, ?_⟩) ?_ ?_
           rotate_left
           ·intro w'
            go_simp; with_reducible rfl
           rotate_left
           ·simp only [Act.put, List.setIfInBounds_toArray, List.set_cons_zero, List.set_cons_succ, i64_w, i32_w]
            rfl
           refine pure_ (i := 2) (N := some 27) (v := ?_) (a' := ?_) #[true, false, true, false, false, false, false, false, false, false, false, false, false, false, false, false, false, false, false, false, false, false, false, false, false] rfl rfl (any_of HT_.out (by kernel_rfl)) (fun _ _ _ h => h) (Or.inl ⟨by rfl, ?_⟩) ?_ ?_
           rotate_left
           ·intro w'
            go_simp; with_reducible rfl
           rotate_left
           ·simp only [Act.put, List.setIfInBounds_toArray, List.set_cons_zero, List.set_cons_succ, i64_w, i32_w]
            rfl
           refine pure_ (i := 3) (N := some 28) (v := ?_) (a' := ?_) #[true, false, true, true, false, false, false, false, false, false, false, false, false, false, false, false, false, false, false, false, false, false, false, false, false] rfl rfl (any_of HT_.out (by kernel_rfl)) (fun _ _ _ h => h) (Or.inl ⟨by rfl, ?_⟩) ?_ ?_
           rotate_left
           ·intro w'
            go_simp; with_reducible rfl
           rotate_left
           ·simp only [Act.put, List.setIfInBounds_toArray, List.set_cons_zero, List.set_cons_succ, i64_w, i32_w]
            rfl
           refine pure_ (i := 7) (N := some 32) (v := ?_) (a' := ?_) #[true, false, true, true, false, false, false, true, false, false, false, false, false, false, false, false, false, false, false, false, false, false, false, false, false] rfl rfl (any_of HT_.out (by kernel_rfl)) (fun _ _ _ h => h) (Or.inl ⟨by rfl, ?_⟩) ?_ ?_
           rotate_left
           ·intro w'
            go_simp; with_reducible rfl
           rotate_left
           ·simp only [Act.put, List.setIfInBounds_toArray, List.set_cons_zero, List.set_cons_succ, i64_w, i32_w]
            rfl
           refine pure_ (i := 9) (N := some 34) (v := ?_) (a' := ?_) #[true, false, true, true, false, false, false, true, false, true, false, false, false, false, false, false, false, false, false, false, false, false, false, false, false] rfl rfl (any_of HT_.out (by kernel_rfl)) (fun _ _ _ h => h) (Or.inl ⟨by rfl, ?_⟩) ?_ ?_
           rotate_left
           ·intro w'
            go_simp; with_reducible rfl
           rotate_left
           ·simp only [Act.put, List.setIfInBounds_toArray, List.set_cons_zero, List.set_cons_succ, i64_w, i32_w]
            rfl
           refine pure_ (i := 10) (N := some 35) (v := ?_) (a' := ?_) #[true, false, true, true, false, false, false, true, false, true, true, false, false, false, false, false, false, false, false, false, false, false, false, false, false] rfl rfl (any_of HT_.out (by kernel_rfl)) (fun _ _ _ h => h) (Or.inl ⟨by rfl, ?_⟩) ?_ ?_
           rotate_left
           ·intro w'
            go_simp; with_reducible rfl
           rotate_left
           ·simp only [Act.put, List.setIfInBounds_toArray, List.set_cons_zero, List.set_cons_succ, i64_w, i32_w]
            rfl
           refine pure_ (i := 14) (N := some 39) (v := ?_) (a' := ?_) #[true, false, true, true, false, false, false, true, false, true, true, false, false, false, true, false, false, false, false, false, false, false, false, false, false] rfl rfl (any_of HT_.out (by kernel_rfl)) (fun _ _ _ h => h) (Or.inl ⟨by rfl, ?_⟩) ?_ ?_
           rotate_left
           ·intro w'
            go_simp; with_reducible rfl
           rotate_left
           ·simp only [Act.put, List.setIfInBounds_toArray, List.set_cons_zero, List.set_cons_succ, i64_w, i32_w]
            rfl
           refine pure_ (i := 16) (N := some 41) (v := ?_) (a' := ?_) #[true, false, true, true, false, false, false, true, false, true, true, false, false, false, true, false, true, false, false, false, false, false, false, false, false] rfl rfl (any_of HT_.out (by kernel_rfl)) (fun _ _ _ h => h) (Or.inl ⟨by rfl, ?_⟩) ?_ ?_
           rotate_left
           ·intro w'
            go_simp; with_reducible rfl
           rotate_left
           ·simp only [Act.put, List.setIfInBounds_toArray, List.set_cons_zero, List.set_cons_succ, i64_w, i32_w]
            rfl
           refine take_ (i := 1) (N := some 26) (v := ?_) (a' := ?_) #[true, true, true, true, false, false, false, true, false, true, true, false, false, false, true, false, true, false, false, false, false, false, false, false, false] rfl rfl (take_ofW HT_.out HW_.out (by kernel_rfl)) (fun _ _ _ h => h) (Or.inl ⟨by rfl, ?_⟩) hHeld ?_ ?_
           rotate_left
           ·rintro w' ⟨s0, s1, s2, s3, s4, s5⟩
            go_simp; with_reducible rfl
           rotate_left
           ·simp only [Act.put, List.setIfInBounds_toArray, List.set_cons_zero, List.set_cons_succ, i64_w, i32_w]
            rfl
           refine take_ (i := 4) (N := some 29) (v := ?_) (a' := ?_) #[true, true, true, true, true, false, false, true, false, true, true, false, false, false, true, false, true, false, false, false, false, false, false, false, false] rfl rfl (take_ofW HT_.out HW_.out (by kernel_rfl)) (fun _ _ _ h => h) (Or.inl ⟨by rfl, ?_⟩) hHeld ?_ ?_
           rotate_left
           ·rintro w' ⟨s0, s1, s2, s3, s4, s5⟩
            go_simp; with_reducible rfl
           rotate_left
           ·simp only [Act.put, List.setIfInBounds_toArray, List.set_cons_zero, List.set_cons_succ, i64_w, i32_w]
            rfl
           refine take_ (i := 8) (N := some 33) (v := ?_) (a' := ?_) #[true, true, true, true, true, false, false, true, true, true, true, false, false, false, true, false, true, false, false, false, false, false, false, false, false] rfl rfl (take_ofW HT_.out HW_.out (by kernel_rfl)) (fun _ _ _ h => h) (Or.inl ⟨by rfl, ?_⟩) hHeld ?_ ?_
           rotate_left
           ·rintro w' ⟨s0, s1, s2, s3, s4, s5⟩
            go_simp; with_reducible rfl
           rotate_left
           ·simp only [Act.put, List.setIfInBounds_toArray, List.set_cons_zero, List.set_cons_succ, i64_w, i32_w]
            rfl
           refine take_ (i := 11) (N := some 36) (v := ?_) (a' := ?_) #[true, true, true, true, true, false, false, true, true, true, true, true, false, false, true, false, true, false, false, false, false, false, false, false, false] rfl rfl (take_ofW HT_.out HW_.out (by kernel_rfl)) (fun _ _ _ h => h) (Or.inl ⟨by rfl, ?_⟩) hHeld ?_ ?_
           rotate_left
           ·rintro w' ⟨s0, s1, s2, s3, s4, s5⟩
            go_simp; with_reducible rfl
           rotate_left
           ·simp only [Act.put, List.setIfInBounds_toArray, List.set_cons_zero, List.set_cons_succ, i64_w, i32_w]
            rfl
           refine take_ (i := 15) (N := some 40) (v := ?_) (a' := ?_) #[true, true, true, true, true, false, false, true, true, true, true, true, false, false, true, true, true, false, false, false, false, false, false, false, false] rfl rfl (take_ofW HT_.out HW_.out (by kernel_rfl)) (fun _ _ _ h => h) (Or.inl ⟨by rfl, ?_⟩) hHeld ?_ ?_
           rotate_left
           ·rintro w' ⟨s0, s1, s2, s3, s4, s5⟩
            go_simp; with_reducible rfl
           rotate_left
           ·simp only [Act.put, List.setIfInBounds_toArray, List.set_cons_zero, List.set_cons_succ, i64_w, i32_w]
            rfl
           refine join_ (σ := Value × Value × Value × Value × Value) 6 #[true, true, true, true, true, true, true, true, true, true, true, true, true, true, true, true, true, true, false, true, false, false, false, false, false] (fun s_ => [(30, s_.1), (31, s_.2.1), (37, s_.2.2.1), (38, s_.2.2.2.1), (42, s_.2.2.2.2), (44, .pointer (some ⟨gb195, 0, none⟩))]) (fun s_ w' => (w'.cell? ⟨gb195, 0, none⟩ = some (.slice Ao28 x196000_1.length co28) ∧ w'.cell? ⟨gb195, 1, none⟩ = some (.slice Ao29 x196001_1.length co29) ∧ w'.cell? ⟨gb195, 2, none⟩ = some (.slice Ao30 x196002_1.length co30) ∧ w'.cell? ⟨gb196, 0, none⟩ = some (.int .i16 x197000_8) ∧ w'.cell? ⟨gb196, 1, none⟩ = some (.int .i16 x197001_8) ∧ w'.cell? ⟨gb196, 2, none⟩ = some (.bool x197002_8)) ∧ (Kd.R (Kd.int .i16) 38 w' w.heap.size (fun k_ => some k_ ≠ (s_.2.1 : Value).ownBlock ∧ some k_ ≠ (s_.2.2.1 : Value).ownBlock ∧ some k_ ≠ (s_.2.2.2.1 : Value).ownBlock ∧ some k_ ≠ (s_.2.2.2.2 : Value).ownBlock ∧ nbk k_ Ao30 x196002_1.length co30) s_.1 y199) ∧ (Kd.R (Kd.int .i16) 38 w' w.heap.size (fun k_ => some k_ ≠ (s_.1 : Value).ownBlock ∧ some k_ ≠ (s_.2.2.1 : Value).ownBlock ∧ some k_ ≠ (s_.2.2.2.1 : Value).ownBlock ∧ some k_ ≠ (s_.2.2.2.2 : Value).ownBlock ∧ nbk k_ Ao30 x196002_1.length co30) s_.2.1 y202) ∧ (Kd.R (Kd.int .i16) 38 w' w.heap.size (fun k_ => some k_ ≠ (s_.1 : Value).ownBlock ∧ some k_ ≠ (s_.2.1 : Value).ownBlock ∧ some k_ ≠ (s_.2.2.2.1 : Value).ownBlock ∧ some k_ ≠ (s_.2.2.2.2 : Value).ownBlock ∧ nbk k_ Ao30 x196002_1.length co30) s_.2.2.1 y205) ∧ (Kd.R (Kd.int .i16) 38 w' w.heap.size (fun k_ => some k_ ≠ (s_.1 : Value).ownBlock ∧ some k_ ≠ (s_.2.1 : Value).ownBlock ∧ some k_ ≠ (s_.2.2.1 : Value).ownBlock ∧ some k_ ≠ (s_.2.2.2.2 : Value).ownBlock ∧ nbk k_ Ao30 x196002_1.length co30) s_.2.2.2.1 y208) ∧ (Kd.R (Kd.int .i16) 38 w' w.heap.size (fun k_ => some k_ ≠ (s_.1 : Value).ownBlock ∧ some k_ ≠ (s_.2.1 : Value).ownBlock ∧ some k_ ≠ (s_.2.2.1 : Value).ownBlock ∧ some k_ ≠ (s_.2.2.2.1 : Value).ownBlock ∧ nbk k_ Ao30 x196002_1.length co30) s_.2.2.2.2 y211) ∧ (Kd.R (Kd.int .i16) 38 w' w.heap.size (fun k_ => some k_ ≠ (s_.1 : Value).ownBlock ∧ some k_ ≠ (s_.2.1 : Value).ownBlock ∧ some k_ ≠ (s_.2.2.1 : Value).ownBlock ∧ some k_ ≠ (s_.2.2.2.1 : Value).ownBlock ∧ some k_ ≠ (s_.2.2.2.2 : Value).ownBlock) (.slice Ao30 x196002_1.length co30) x196002_1) ∧ (w'.heap[gb194]? = some (.cells #[.slice none 0 0, .slice none 0 0, .slice none 0 0] 29 (0, 0))) ∧ (w'.heap[gb195]? = some (.cells #[.slice Ao28 x196000_1.length co28, .slice Ao29 x196001_1.length co29, .slice Ao30 x196002_1.length co30] 29 (0, 0))) ∧ (w'.heap[gb196]? = some (.cells #[.int .i16 x197000_8, .int .i16 x197001_8, .bool x197002_8] 118 (0, 0))) ∧ (Below w.heap.size w w')) ?_ ?_
           rotate_left
           ·intro hJ5_6_12_13_17
            refine join_ (σ := Value × Value × Value × Value) 7 #[true, true, true, true, true, true, true, true, true, true, true, true, true, true, true, true, true, false, false, true, false, false, false, false, false] (fun s_ => [(30, s_.1), (31, s_.2.1), (37, s_.2.2.1), (38, s_.2.2.2), (44, .pointer (some ⟨gb195, 0, none⟩))]) (fun s_ w' => (w'.cell? ⟨gb195, 0, none⟩ = some (.slice Ao28 x196000_1.length co28) ∧ w'.cell? ⟨gb195, 1, none⟩ = some (.slice Ao29 x196001_1.length co29) ∧ w'.cell? ⟨gb195, 2, none⟩ = some (.slice Ao30 x196002_1.length co30) ∧ w'.cell? ⟨gb196, 0, none⟩ = some (.int .i16 x197000_8) ∧ w'.cell? ⟨gb196, 1, none⟩ = some (.int .i16 x197001_8) ∧ w'.cell? ⟨gb196, 2, none⟩ = some (.bool x197002_8)) ∧ (Kd.R (Kd.int .i16) 38 w' w.heap.size (fun k_ => some k_ ≠ (s_.2.1 : Value).ownBlock ∧ some k_ ≠ (s_.2.2.1 : Value).ownBlock ∧ some k_ ≠ (s_.2.2.2 : Value).ownBlock ∧ nbk k_ Ao30 x196002_1.length co30) s_.1 y199) ∧ (Kd.R (Kd.int .i16) 38 w' w.heap.size (fun k_ => some k_ ≠ (s_.1 : Value).ownBlock ∧ some k_ ≠ (s_.2.2.1 : Value).ownBlock ∧ some k_ ≠ (s_.2.2.2 : Value).ownBlock ∧ nbk k_ Ao30 x196002_1.length co30) s_.2.1 y202) ∧ (Kd.R (Kd.int .i16) 38 w' w.heap.size (fun k_ => some k_ ≠ (s_.1 : Value).ownBlock ∧ some k_ ≠ (s_.2.1 : Value).ownBlock ∧ some k_ ≠ (s_.2.2.2 : Value).ownBlock ∧ nbk k_ Ao30 x196002_1.length co30) s_.2.2.1 y205) ∧ (Kd.R (Kd.int .i16) 38 w' w.heap.size (fun k_ => some k_ ≠ (s_.1 : Value).ownBlock ∧ some k_ ≠ (s_.2.1 : Value).ownBlock ∧ some k_ ≠ (s_.2.2.1 : Value).ownBlock ∧ nbk k_ Ao30 x196002_1.length co30) s_.2.2.2 y208) ∧ (Kd.R (Kd.int .i16) 38 w' w.heap.size (fun k_ => some k_ ≠ (s_.1 : Value).ownBlock ∧ some k_ ≠ (s_.2.1 : Value).ownBlock ∧ some k_ ≠ (s_.2.2.1 : Value).ownBlock ∧ some k_ ≠ (s_.2.2.2 : Value).ownBlock) (.slice Ao30 x196002_1.length co30) x196002_1) ∧ (w'.heap[gb194]? = some (.cells #[.slice none 0 0, .slice none 0 0, .slice none 0 0] 29 (0, 0))) ∧ (w'.heap[gb195]? = some (.cells #[.slice Ao28 x196000_1.length co28, .slice Ao29 x196001_1.length co29, .slice Ao30 x196002_1.length co30] 29 (0, 0))) ∧ (w'.heap[gb196]? = some (.cells #[.int .i16 x197000_8, .int .i16 x197001_8, .bool x197002_8] 118 (0, 0))) ∧ (Below w.heap.size w w')) ?_ ?_
            rotate_left
            ·intro hJ5_6_12_13
             refine join_ (σ := Value × Value × Value × Value) 7 #[true, true, true, true, true, true, true, true, true, true, true, true, true, false, true, true, true, true, false, true, false, false, false, false, false] (fun s_ => [(30, s_.1), (31, s_.2.1), (37, s_.2.2.1), (42, s_.2.2.2), (44, .pointer (some ⟨gb195, 0, none⟩))]) (fun s_ w' => (w'.cell? ⟨gb195, 0, none⟩ = some (.slice Ao28 x196000_1.length co28) ∧ w'.cell? ⟨gb195, 1, none⟩ = some (.slice Ao29 x196001_1.length co29) ∧ w'.cell? ⟨gb195, 2, none⟩ = some (.slice Ao30 x196002_1.length co30) ∧ w'.cell? ⟨gb196, 0, none⟩ = some (.int .i16 x197000_8) ∧ w'.cell? ⟨gb196, 1, none⟩ = some (.int .i16 x197001_8) ∧ w'.cell? ⟨gb196, 2, none⟩ = some (.bool x197002_8)) ∧ (Kd.R (Kd.int .i16) 38 w' w.heap.size (fun k_ => some k_ ≠ (s_.2.1 : Value).ownBlock ∧ some k_ ≠ (s_.2.2.1 : Value).ownBlock ∧ some k_ ≠ (s_.2.2.2 : Value).ownBlock ∧ nbk k_ Ao29 x196001_1.length co29 ∧ nbk k_ Ao30 x196002_1.length co30) s_.1 y199) ∧ (Kd.R (Kd.int .i16) 38 w' w.heap.size (fun k_ => some k_ ≠ (s_.1 : Value).ownBlock ∧ some k_ ≠ (s_.2.2.1 : Value).ownBlock ∧ some k_ ≠ (s_.2.2.2 : Value).ownBlock ∧ nbk k_ Ao29 x196001_1.length co29 ∧ nbk k_ Ao30 x196002_1.length co30) s_.2.1 y202) ∧ (Kd.R (Kd.int .i16) 38 w' w.heap.size (fun k_ => some k_ ≠ (s_.1 : Value).ownBlock ∧ some k_ ≠ (s_.2.1 : Value).ownBlock ∧ some k_ ≠ (s_.2.2.2 : Value).ownBlock ∧ nbk k_ Ao29 x196001_1.length co29 ∧ nbk k_ Ao30 x196002_1.length co30) s_.2.2.1 y205) ∧ (Kd.R (Kd.int .i16) 38 w' w.heap.size (fun k_ => some k_ ≠ (s_.1 : Value).ownBlock ∧ some k_ ≠ (s_.2.1 : Value).ownBlock ∧ some k_ ≠ (s_.2.2.1 : Value).ownBlock ∧ nbk k_ Ao29 x196001_1.length co29 ∧ nbk k_ Ao30 x196002_1.length co30) s_.2.2.2 y211) ∧ (Kd.R (Kd.int .i16) 38 w' w.heap.size (fun k_ => some k_ ≠ (s_.1 : Value).ownBlock ∧ some k_ ≠ (s_.2.1 : Value).ownBlock ∧ some k_ ≠ (s_.2.2.1 : Value).ownBlock ∧ some k_ ≠ (s_.2.2.2 : Value).ownBlock ∧ nbk k_ Ao30 x196002_1.length co30) (.slice Ao29 x196001_1.length co29) x196001_1) ∧ (Kd.R (Kd.int .i16) 38 w' w.heap.size (fun k_ => some k_ ≠ (s_.1 : Value).ownBlock ∧ some k_ ≠ (s_.2.1 : Value).ownBlock ∧ some k_ ≠ (s_.2.2.1 : Value).ownBlock ∧ some k_ ≠ (s_.2.2.2 : Value).ownBlock ∧ nbk k_ Ao29 x196001_1.length co29) (.slice Ao30 x196002_1.length co30) x196002_1) ∧ (w'.heap[gb194]? = some (.cells #[.slice none 0 0, .slice none 0 0, .slice none 0 0] 29 (0, 0))) ∧ (w'.heap[gb195]? = some (.cells #[.slice Ao28 x196000_1.length co28, .slice Ao29 x196001_1.length co29, .slice Ao30 x196002_1.length co30] 29 (0, 0))) ∧ (w'.heap[gb196]? = some (.cells #[.int .i16 x197000_8, .int .i16 x197001_8, .bool x197002_8] 118 (0, 0))) ∧ (Below w.heap.size w w')) ?_ ?_
             rotate_left
             ·intro hJ5_6_12_17
              refine join_ (σ := Value × Value × Value) 8 #[true, true, true, true, true, true, true, true, true, true, true, true, true, false, true, true, true, false, false, true, false, false, false, false, false] (fun s_ => [(30, s_.1), (31, s_.2.1), (37, s_.2.2), (44, .pointer (some ⟨gb195, 0, none⟩))]) (fun s_ w' => (w'.cell? ⟨gb195, 0, none⟩ = some (.slice Ao28 x196000_1.length co28) ∧ w'.cell? ⟨gb195, 1, none⟩ = some (.slice Ao29 x196001_1.length co29) ∧ w'.cell? ⟨gb195, 2, none⟩ = some (.slice Ao30 x196002_1.length co30) ∧ w'.cell? ⟨gb196, 0, none⟩ = some (.int .i16 x197000_8) ∧ w'.cell? ⟨gb196, 1, none⟩ = some (.int .i16 x197001_8) ∧ w'.cell? ⟨gb196, 2, none⟩ = some (.bool x197002_8)) ∧ (Kd.R (Kd.int .i16) 38 w' w.heap.size (fun k_ => some k_ ≠ (s_.2.1 : Value).ownBlock ∧ some k_ ≠ (s_.2.2 : Value).ownBlock ∧ nbk k_ Ao29 x196001_1.length co29 ∧ nbk k_ Ao30 x196002_1.length co30) s_.1 y199) ∧ (Kd.R (Kd.int .i16) 38 w' w.heap.size (fun k_ => some k_ ≠ (s_.1 : Value).ownBlock ∧ some k_ ≠ (s_.2.2 : Value).ownBlock ∧ nbk k_ Ao29 x196001_1.length co29 ∧ nbk k_ Ao30 x196002_1.length co30) s_.2.1 y202) ∧ (Kd.R (Kd.int .i16) 38 w' w.heap.size (fun k_ => some k_ ≠ (s_.1 : Value).ownBlock ∧ some k_ ≠ (s_.2.1 : Value).ownBlock ∧ nbk k_ Ao29 x196001_1.length co29 ∧ nbk k_ Ao30 x196002_1.length co30) s_.2.2 y205) ∧ (Kd.R (Kd.int .i16) 38 w' w.heap.size (fun k_ => some k_ ≠ (s_.1 : Value).ownBlock ∧ some k_ ≠ (s_.2.1 : Value).ownBlock ∧ some k_ ≠ (s_.2.2 : Value).ownBlock ∧ nbk k_ Ao30 x196002_1.length co30) (.slice Ao29 x196001_1.length co29) x196001_1) ∧ (Kd.R (Kd.int .i16) 38 w' w.heap.size (fun k_ => some k_ ≠ (s_.1 : Value).ownBlock ∧ some k_ ≠ (s_.2.1 : Value).ownBlock ∧ some k_ ≠ (s_.2.2 : Value).ownBlock ∧ nbk k_ Ao29 x196001_1.length co29) (.slice Ao30 x196002_1.length co30) x196002_1) ∧ (w'.heap[gb194]? = some (.cells #[.slice none 0 0, .slice none 0 0, .slice none 0 0] 29 (0, 0))) ∧ (w'.heap[gb195]? = some (.cells #[.slice Ao28 x196000_1.length co28, .slice Ao29 x196001_1.length co29, .slice Ao30 x196002_1.length co30] 29 (0, 0))) ∧ (w'.heap[gb196]? = some (.cells #[.int .i16 x197000_8, .int .i16 x197001_8, .bool x197002_8] 118 (0, 0))) ∧ (Below w.heap.size w w')) ?_ ?_
              rotate_left
              ·intro hJ5_6_12
               refine join_ (σ := Value × Value × Value) 8 #[true, true, true, true, true, true, true, true, true, true, true, true, false, false, true, true, true, true, false, true, false, false, false, false, false] (fun s_ => [(30, s_.1), (31, s_.2.1), (42, s_.2.2), (44, .pointer (some ⟨gb195, 0, none⟩))]) (fun s_ w' => (w'.cell? ⟨gb195, 0, none⟩ = some (.slice Ao28 x196000_1.length co28) ∧ w'.cell? ⟨gb195, 1, none⟩ = some (.slice Ao29 x196001_1.length co29) ∧ w'.cell? ⟨gb195, 2, none⟩ = some (.slice Ao30 x196002_1.length co30) ∧ w'.cell? ⟨gb196, 0, none⟩ = some (.int .i16 x197000_8) ∧ w'.cell? ⟨gb196, 1, none⟩ = some (.int .i16 x197001_8) ∧ w'.cell? ⟨gb196, 2, none⟩ = some (.bool x197002_8)) ∧ (Kd.R (Kd.int .i16) 38 w' w.heap.size (fun k_ => some k_ ≠ (s_.2.1 : Value).ownBlock ∧ some k_ ≠ (s_.2.2 : Value).ownBlock ∧ nbk k_ Ao29 x196001_1.length co29 ∧ nbk k_ Ao30 x196002_1.length co30) s_.1 y199) ∧ (Kd.R (Kd.int .i16) 38 w' w.heap.size (fun k_ => some k_ ≠ (s_.1 : Value).ownBlock ∧ some k_ ≠ (s_.2.2 : Value).ownBlock ∧ nbk k_ Ao29 x196001_1.length co29 ∧ nbk k_ Ao30 x196002_1.length co30) s_.2.1 y202) ∧ (Kd.R (Kd.int .i16) 38 w' w.heap.size (fun k_ => some k_ ≠ (s_.1 : Value).ownBlock ∧ some k_ ≠ (s_.2.1 : Value).ownBlock ∧ nbk k_ Ao29 x196001_1.length co29 ∧ nbk k_ Ao30 x196002_1.length co30) s_.2.2 y211) ∧ (Kd.R (Kd.int .i16) 38 w' w.heap.size (fun k_ => some k_ ≠ (s_.1 : Value).ownBlock ∧ some k_ ≠ (s_.2.1 : Value).ownBlock ∧ some k_ ≠ (s_.2.2 : Value).ownBlock ∧ nbk k_ Ao30 x196002_1.length co30) (.slice Ao29 x196001_1.length co29) x196001_1) ∧ (Kd.R (Kd.int .i16) 38 w' w.heap.size (fun k_ => some k_ ≠ (s_.1 : Value).ownBlock ∧ some k_ ≠ (s_.2.1 : Value).ownBlock ∧ some k_ ≠ (s_.2.2 : Value).ownBlock ∧ nbk k_ Ao29 x196001_1.length co29) (.slice Ao30 x196002_1.length co30) x196002_1) ∧ (w'.heap[gb194]? = some (.cells #[.slice none 0 0, .slice none 0 0, .slice none 0 0] 29 (0, 0))) ∧ (w'.heap[gb195]? = some (.cells #[.slice Ao28 x196000_1.length co28, .slice Ao29 x196001_1.length co29, .slice Ao30 x196002_1.length co30] 29 (0, 0))) ∧ (w'.heap[gb196]? = some (.cells #[.int .i16 x197000_8, .int .i16 x197001_8, .bool x197002_8] 118 (0, 0))) ∧ (Below w.heap.size w w')) ?_ ?_
               rotate_left
               ·intro hJ5_6_17
                refine join_ (σ := Value × Value × Value) 9 #[true, true, true, true, true, true, false, true, true, true, true, true, true, false, true, true, true, true, false, false, false, false, false, false, false] (fun s_ => [(30, s_.1), (37, s_.2.1), (42, s_.2.2)]) (fun s_ w' => (w'.cell? ⟨gb195, 0, none⟩ = some (.slice Ao28 x196000_1.length co28) ∧ w'.cell? ⟨gb195, 1, none⟩ = some (.slice Ao29 x196001_1.length co29) ∧ w'.cell? ⟨gb195, 2, none⟩ = some (.slice Ao30 x196002_1.length co30) ∧ w'.cell? ⟨gb196, 0, none⟩ = some (.int .i16 x197000_8) ∧ w'.cell? ⟨gb196, 1, none⟩ = some (.int .i16 x197001_8) ∧ w'.cell? ⟨gb196, 2, none⟩ = some (.bool x197002_8)) ∧ (Kd.R (Kd.int .i16) 38 w' w.heap.size (fun k_ => some k_ ≠ (s_.2.1 : Value).ownBlock ∧ some k_ ≠ (s_.2.2 : Value).ownBlock ∧ nbk k_ Ao28 x196000_1.length co28 ∧ nbk k_ Ao29 x196001_1.length co29 ∧ nbk k_ Ao30 x196002_1.length co30) s_.1 y199) ∧ (Kd.R (Kd.int .i16) 38 w' w.heap.size (fun k_ => some k_ ≠ (s_.1 : Value).ownBlock ∧ some k_ ≠ (s_.2.2 : Value).ownBlock ∧ nbk k_ Ao28 x196000_1.length co28 ∧ nbk k_ Ao29 x196001_1.length co29 ∧ nbk k_ Ao30 x196002_1.length co30) s_.2.1 y205) ∧ (Kd.R (Kd.int .i16) 38 w' w.heap.size (fun k_ => some k_ ≠ (s_.1 : Value).ownBlock ∧ some k_ ≠ (s_.2.1 : Value).ownBlock ∧ nbk k_ Ao28 x196000_1.length co28 ∧ nbk k_ Ao29 x196001_1.length co29 ∧ nbk k_ Ao30 x196002_1.length co30) s_.2.2 y211) ∧ (Kd.R (Kd.int .i16) 38 w' w.heap.size (fun k_ => some k_ ≠ (s_.1 : Value).ownBlock ∧ some k_ ≠ (s_.2.1 : Value).ownBlock ∧ some k_ ≠ (s_.2.2 : Value).ownBlock ∧ nbk k_ Ao29 x196001_1.length co29 ∧ nbk k_ Ao30 x196002_1.length co30) (.slice Ao28 x196000_1.length co28) x196000_1) ∧ (Kd.R (Kd.int .i16) 38 w' w.heap.size (fun k_ => some k_ ≠ (s_.1 : Value).ownBlock ∧ some k_ ≠ (s_.2.1 : Value).ownBlock ∧ some k_ ≠ (s_.2.2 : Value).ownBlock ∧ nbk k_ Ao28 x196000_1.length co28 ∧ nbk k_ Ao30 x196002_1.length co30) (.slice Ao29 x196001_1.length co29) x196001_1) ∧ (Kd.R (Kd.int .i16) 38 w' w.heap.size (fun k_ => some k_ ≠ (s_.1 : Value).ownBlock ∧ some k_ ≠ (s_.2.1 : Value).ownBlock ∧ some k_ ≠ (s_.2.2 : Value).ownBlock ∧ nbk k_ Ao28 x196000_1.length co28 ∧ nbk k_ Ao29 x196001_1.length co29) (.slice Ao30 x196002_1.length co30) x196002_1) ∧ (w'.heap[gb194]? = some (.cells #[.slice none 0 0, .slice none 0 0, .slice none 0 0] 29 (0, 0))) ∧ (w'.heap[gb195]? = some (.cells #[.slice Ao28 x196000_1.length co28, .slice Ao29 x196001_1.length co29, .slice Ao30 x196002_1.length co30] 29 (0, 0))) ∧ (w'.heap[gb196]? = some (.cells #[.int .i16 x197000_8, .int .i16 x197001_8, .bool x197002_8] 118 (0, 0))) ∧ (Below w.heap.size w w')) ?_ ?_
                rotate_left
                ·intro hJ5_12_17
                 refine join_ (σ := Value × Value) 9 #[true, true, true, true, true, true, true, true, true, true, true, true, false, false, true, true, true, false, false, true, false, false, false, false, false] (fun s_ => [(30, s_.1), (31, s_.2), (44, .pointer (some ⟨gb195, 0, none⟩))]) (fun s_ w' => (w'.cell? ⟨gb195, 0, none⟩ = some (.slice Ao28 x196000_1.length co28) ∧ w'.cell? ⟨gb195, 1, none⟩ = some (.slice Ao29 x196001_1.length co29) ∧ w'.cell? ⟨gb195, 2, none⟩ = some (.slice Ao30 x196002_1.length co30) ∧ w'.cell? ⟨gb196, 0, none⟩ = some (.int .i16 x197000_8) ∧ w'.cell? ⟨gb196, 1, none⟩ = some (.int .i16 x197001_8) ∧ w'.cell? ⟨gb196, 2, none⟩ = some (.bool x197002_8)) ∧ (Kd.R (Kd.int .i16) 38 w' w.heap.size (fun k_ => some k_ ≠ (s_.2 : Value).ownBlock ∧ nbk k_ Ao29 x196001_1.length co29 ∧ nbk k_ Ao30 x196002_1.length co30) s_.1 y199) ∧ (Kd.R (Kd.int .i16) 38 w' w.heap.size (fun k_ => some k_ ≠ (s_.1 : Value).ownBlock ∧ nbk k_ Ao29 x196001_1.length co29 ∧ nbk k_ Ao30 x196002_1.length co30) s_.2 y202) ∧ (Kd.R (Kd.int .i16) 38 w' w.heap.size (fun k_ => some k_ ≠ (s_.1 : Value).ownBlock ∧ some k_ ≠ (s_.2 : Value).ownBlock ∧ nbk k_ Ao30 x196002_1.length co30) (.slice Ao29 x196001_1.length co29) x196001_1) ∧ (Kd.R (Kd.int .i16) 38 w' w.heap.size (fun k_ => some k_ ≠ (s_.1 : Value).ownBlock ∧ some k_ ≠ (s_.2 : Value).ownBlock ∧ nbk k_ Ao29 x196001_1.length co29) (.slice Ao30 x196002_1.length co30) x196002_1) ∧ (w'.heap[gb194]? = some (.cells #[.slice none 0 0, .slice none 0 0, .slice none 0 0] 29 (0, 0))) ∧ (w'.heap[gb195]? = some (.cells #[.slice Ao28 x196000_1.length co28, .slice Ao29 x196001_1.length co29, .slice Ao30 x196002_1.length co30] 29 (0, 0))) ∧ (w'.heap[gb196]? = some (.cells #[.int .i16 x197000_8, .int .i16 x197001_8, .bool x197002_8] 118 (0, 0))) ∧ (Below w.heap.size w w')) ?_ ?_
                 rotate_left
                 ·intro hJ5_6
                  refine join_ (σ := Value × Value) 10 #[true, true, true, true, true, true, false, true, true, true, true, true, true, false, true, true, true, false, false, false, false, false, false, false, false] (fun s_ => [(30, s_.1), (37, s_.2)]) (fun s_ w' => (w'.cell? ⟨gb195, 0, none⟩ = some (.slice Ao28 x196000_1.length co28) ∧ w'.cell? ⟨gb195, 1, none⟩ = some (.slice Ao29 x196001_1.length co29) ∧ w'.cell? ⟨gb195, 2, none⟩ = some (.slice Ao30 x196002_1.length co30) ∧ w'.cell? ⟨gb196, 0, none⟩ = some (.int .i16 x197000_8) ∧ w'.cell? ⟨gb196, 1, none⟩ = some (.int .i16 x197001_8) ∧ w'.cell? ⟨gb196, 2, none⟩ = some (.bool x197002_8)) ∧ (Kd.R (Kd.int .i16) 38 w' w.heap.size (fun k_ => some k_ ≠ (s_.2 : Value).ownBlock ∧ nbk k_ Ao28 x196000_1.length co28 ∧ nbk k_ Ao29 x196001_1.length co29 ∧ nbk k_ Ao30 x196002_1.length co30) s_.1 y199) ∧ (Kd.R (Kd.int .i16) 38 w' w.heap.size (fun k_ => some k_ ≠ (s_.1 : Value).ownBlock ∧ nbk k_ Ao28 x196000_1.length co28 ∧ nbk k_ Ao29 x196001_1.length co29 ∧ nbk k_ Ao30 x196002_1.length co30) s_.2 y205) ∧ (Kd.R (Kd.int .i16) 38 w' w.heap.size (fun k_ => some k_ ≠ (s_.1 : Value).ownBlock ∧ some k_ ≠ (s_.2 : Value).ownBlock ∧ nbk k_ Ao29 x196001_1.length co29 ∧ nbk k_ Ao30 x196002_1.length co30) (.slice Ao28 x196000_1.length co28) x196000_1) ∧ (Kd.R (Kd.int .i16) 38 w' w.heap.size (fun k_ => some k_ ≠ (s_.1 : Value).ownBlock ∧ some k_ ≠ (s_.2 : Value).ownBlock ∧ nbk k_ Ao28 x196000_1.length co28 ∧ nbk k_ Ao30 x196002_1.length co30) (.slice Ao29 x196001_1.length co29) x196001_1) ∧ (Kd.R (Kd.int .i16) 38 w' w.heap.size (fun k_ => some k_ ≠ (s_.1 : Value).ownBlock ∧ some k_ ≠ (s_.2 : Value).ownBlock ∧ nbk k_ Ao28 x196000_1.length co28 ∧ nbk k_ Ao29 x196001_1.length co29) (.slice Ao30 x196002_1.length co30) x196002_1) ∧ (w'.heap[gb194]? = some (.cells #[.slice none 0 0, .slice none 0 0, .slice none 0 0] 29 (0, 0))) ∧ (w'.heap[gb195]? = some (.cells #[.slice Ao28 x196000_1.length co28, .slice Ao29 x196001_1.length co29, .slice Ao30 x196002_1.length co30] 29 (0, 0))) ∧ (w'.heap[gb196]? = some (.cells #[.int .i16 x197000_8, .int .i16 x197001_8, .bool x197002_8] 118 (0, 0))) ∧ (Below w.heap.size w w')) ?_ ?_
                  rotate_left
                  ·intro hJ5_12
                   refine join_ (σ := Value × Value) 10 #[true, true, true, true, true, true, false, true, true, true, true, true, false, false, true, true, true, true, false, false, false, false, false, false, false] (fun s_ => [(30, s_.1), (42, s_.2)]) (fun s_ w' => (w'.cell? ⟨gb195, 0, none⟩ = some (.slice Ao28 x196000_1.length co28) ∧ w'.cell? ⟨gb195, 1, none⟩ = some (.slice Ao29 x196001_1.length co29) ∧ w'.cell? ⟨gb195, 2, none⟩ = some (.slice Ao30 x196002_1.length co30) ∧ w'.cell? ⟨gb196, 0, none⟩ = some (.int .i16 x197000_8) ∧ w'.cell? ⟨gb196, 1, none⟩ = some (.int .i16 x197001_8) ∧ w'.cell? ⟨gb196, 2, none⟩ = some (.bool x197002_8)) ∧ (Kd.R (Kd.int .i16) 38 w' w.heap.size (fun k_ => some k_ ≠ (s_.2 : Value).ownBlock ∧ nbk k_ Ao28 x196000_1.length co28 ∧ nbk k_ Ao29 x196001_1.length co29 ∧ nbk k_ Ao30 x196002_1.length co30) s_.1 y199) ∧ (Kd.R (Kd.int .i16) 38 w' w.heap.size (fun k_ => some k_ ≠ (s_.1 : Value).ownBlock ∧ nbk k_ Ao28 x196000_1.length co28 ∧ nbk k_ Ao29 x196001_1.length co29 ∧ nbk k_ Ao30 x196002_1.length co30) s_.2 y211) ∧ (Kd.R (Kd.int .i16) 38 w' w.heap.size (fun k_ => some k_ ≠ (s_.1 : Value).ownBlock ∧ some k_ ≠ (s_.2 : Value).ownBlock ∧ nbk k_ Ao29 x196001_1.length co29 ∧ nbk k_ Ao30 x196002_1.length co30) (.slice Ao28 x196000_1.length co28) x196000_1) ∧ (Kd.R (Kd.int .i16) 38 w' w.heap.size (fun k_ => some k_ ≠ (s_.1 : Value).ownBlock ∧ some k_ ≠ (s_.2 : Value).ownBlock ∧ nbk k_ Ao28 x196000_1.length co28 ∧ nbk k_ Ao30 x196002_1.length co30) (.slice Ao29 x196001_1.length co29) x196001_1) ∧ (Kd.R (Kd.int .i16) 38 w' w.heap.size (fun k_ => some k_ ≠ (s_.1 : Value).ownBlock ∧ some k_ ≠ (s_.2 : Value).ownBlock ∧ nbk k_ Ao28 x196000_1.length co28 ∧ nbk k_ Ao29 x196001_1.length co29) (.slice Ao30 x196002_1.length co30) x196002_1) ∧ (w'.heap[gb194]? = some (.cells #[.slice none 0 0, .slice none 0 0, .slice none 0 0] 29 (0, 0))) ∧ (w'.heap[gb195]? = some (.cells #[.slice Ao28 x196000_1.length co28, .slice Ao29 x196001_1.length co29, .slice Ao30 x196002_1.length co30] 29 (0, 0))) ∧ (w'.heap[gb196]? = some (.cells #[.int .i16 x197000_8, .int .i16 x197001_8, .bool x197002_8] 118 (0, 0))) ∧ (Below w.heap.size w w')) ?_ ?_
                   rotate_left
                   ·intro hJ5_17
                    refine join_ (σ := Value × Value) 10 #[true, true, true, true, true, false, false, true, true, true, true, true, true, false, true, true, true, true, false, false, false, false, false, false, false] (fun s_ => [(37, s_.1), (42, s_.2)]) (fun s_ w' => (w'.cell? ⟨gb195, 0, none⟩ = some (.slice Ao28 x196000_1.length co28) ∧ w'.cell? ⟨gb195, 1, none⟩ = some (.slice Ao29 x196001_1.length co29) ∧ w'.cell? ⟨gb195, 2, none⟩ = some (.slice Ao30 x196002_1.length co30) ∧ w'.cell? ⟨gb196, 0, none⟩ = some (.int .i16 x197000_8) ∧ w'.cell? ⟨gb196, 1, none⟩ = some (.int .i16 x197001_8) ∧ w'.cell? ⟨gb196, 2, none⟩ = some (.bool x197002_8)) ∧ (Kd.R (Kd.int .i16) 38 w' w.heap.size (fun k_ => some k_ ≠ (s_.2 : Value).ownBlock ∧ nbk k_ Ao28 x196000_1.length co28 ∧ nbk k_ Ao29 x196001_1.length co29 ∧ nbk k_ Ao30 x196002_1.length co30) s_.1 y205) ∧ (Kd.R (Kd.int .i16) 38 w' w.heap.size (fun k_ => some k_ ≠ (s_.1 : Value).ownBlock ∧ nbk k_ Ao28 x196000_1.length co28 ∧ nbk k_ Ao29 x196001_1.length co29 ∧ nbk k_ Ao30 x196002_1.length co30) s_.2 y211) ∧ (Kd.R (Kd.int .i16) 38 w' w.heap.size (fun k_ => some k_ ≠ (s_.1 : Value).ownBlock ∧ some k_ ≠ (s_.2 : Value).ownBlock ∧ nbk k_ Ao29 x196001_1.length co29 ∧ nbk k_ Ao30 x196002_1.length co30) (.slice Ao28 x196000_1.length co28) x196000_1) ∧ (Kd.R (Kd.int .i16) 38 w' w.heap.size (fun k_ => some k_ ≠ (s_.1 : Value).ownBlock ∧ some k_ ≠ (s_.2 : Value).ownBlock ∧ nbk k_ Ao28 x196000_1.length co28 ∧ nbk k_ Ao30 x196002_1.length co30) (.slice Ao29 x196001_1.length co29) x196001_1) ∧ (Kd.R (Kd.int .i16) 38 w' w.heap.size (fun k_ => some k_ ≠ (s_.1 : Value).ownBlock ∧ some k_ ≠ (s_.2 : Value).ownBlock ∧ nbk k_ Ao28 x196000_1.length co28 ∧ nbk k_ Ao29 x196001_1.length co29) (.slice Ao30 x196002_1.length co30) x196002_1) ∧ (w'.heap[gb194]? = some (.cells #[.slice none 0 0, .slice none 0 0, .slice none 0 0] 29 (0, 0))) ∧ (w'.heap[gb195]? = some (.cells #[.slice Ao28 x196000_1.length co28, .slice Ao29 x196001_1.length co29, .slice Ao30 x196002_1.length co30] 29 (0, 0))) ∧ (w'.heap[gb196]? = some (.cells #[.int .i16 x197000_8, .int .i16 x197001_8, .bool x197002_8] 118 (0, 0))) ∧ (Below w.heap.size w w')) ?_ ?_
                    rotate_left
                    ·intro hJ12_17
                     refine join_ (σ := Value) 11 #[true, true, true, true, true, true, false, true, true, true, true, true, false, false, true, true, true, false, false, false, false, false, false, false, false] (fun s_ => [(30, s_)]) (fun s_ w' => (w'.cell? ⟨gb195, 0, none⟩ = some (.slice Ao28 x196000_1.length co28) ∧ w'.cell? ⟨gb195, 1, none⟩ = some (.slice Ao29 x196001_1.length co29) ∧ w'.cell? ⟨gb195, 2, none⟩ = some (.slice Ao30 x196002_1.length co30) ∧ w'.cell? ⟨gb196, 0, none⟩ = some (.int .i16 x197000_8) ∧ w'.cell? ⟨gb196, 1, none⟩ = some (.int .i16 x197001_8) ∧ w'.cell? ⟨gb196, 2, none⟩ = some (.bool x197002_8)) ∧ (Kd.R (Kd.int .i16) 38 w' w.heap.size (fun k_ => nbk k_ Ao28 x196000_1.length co28 ∧ nbk k_ Ao29 x196001_1.length co29 ∧ nbk k_ Ao30 x196002_1.length co30) s_ y199) ∧ (Kd.R (Kd.int .i16) 38 w' w.heap.size (fun k_ => some k_ ≠ (s_ : Value).ownBlock ∧ nbk k_ Ao29 x196001_1.length co29 ∧ nbk k_ Ao30 x196002_1.length co30) (.slice Ao28 x196000_1.length co28) x196000_1) ∧ (Kd.R (Kd.int .i16) 38 w' w.heap.size (fun k_ => some k_ ≠ (s_ : Value).ownBlock ∧ nbk k_ Ao28 x196000_1.length co28 ∧ nbk k_ Ao30 x196002_1.length co30) (.slice Ao29 x196001_1.length co29) x196001_1) ∧ (Kd.R (Kd.int .i16) 38 w' w.heap.size (fun k_ => some k_ ≠ (s_ : Value).ownBlock ∧ nbk k_ Ao28 x196000_1.length co28 ∧ nbk k_ Ao29 x196001_1.length co29) (.slice Ao30 x196002_1.length co30) x196002_1) ∧ (w'.heap[gb194]? = some (.cells #[.slice none 0 0, .slice none 0 0, .slice none 0 0] 29 (0, 0))) ∧ (w'.heap[gb195]? = some (.cells #[.slice Ao28 x196000_1.length co28, .slice Ao29 x196001_1.length co29, .slice Ao30 x196002_1.length co30] 29 (0, 0))) ∧ (w'.heap[gb196]? = some (.cells #[.int .i16 x197000_8, .int .i16 x197001_8, .bool x197002_8] 118 (0, 0))) ∧ (Below w.heap.size w w')) ?_ ?_
                     rotate_left
                     ·intro hJ5
                      refine join_ (σ := Value) 11 #[true, true, true, true, true, false, false, true, true, true, true, true, true, false, true, true, true, false, false, false, false, false, false, false, false] (fun s_ => [(37, s_)]) (fun s_ w' => (w'.cell? ⟨gb195, 0, none⟩ = some (.slice Ao28 x196000_1.length co28) ∧ w'.cell? ⟨gb195, 1, none⟩ = some (.slice Ao29 x196001_1.length co29) ∧ w'.cell? ⟨gb195, 2, none⟩ = some (.slice Ao30 x196002_1.length co30) ∧ w'.cell? ⟨gb196, 0, none⟩ = some (.int .i16 x197000_8) ∧ w'.cell? ⟨gb196, 1, none⟩ = some (.int .i16 x197001_8) ∧ w'.cell? ⟨gb196, 2, none⟩ = some (.bool x197002_8)) ∧ (Kd.R (Kd.int .i16) 38 w' w.heap.size (fun k_ => nbk k_ Ao28 x196000_1.length co28 ∧ nbk k_ Ao29 x196001_1.length co29 ∧ nbk k_ Ao30 x196002_1.length co30) s_ y205) ∧ (Kd.R (Kd.int .i16) 38 w' w.heap.size (fun k_ => some k_ ≠ (s_ : Value).ownBlock ∧ nbk k_ Ao29 x196001_1.length co29 ∧ nbk k_ Ao30 x196002_1.length co30) (.slice Ao28 x196000_1.length co28) x196000_1) ∧ (Kd.R (Kd.int .i16) 38 w' w.heap.size (fun k_ => some k_ ≠ (s_ : Value).ownBlock ∧ nbk k_ Ao28 x196000_1.length co28 ∧ nbk k_ Ao30 x196002_1.length co30) (.slice Ao29 x196001_1.length co29) x196001_1) ∧ (Kd.R (Kd.int .i16) 38 w' w.heap.size (fun k_ => some k_ ≠ (s_ : Value).ownBlock ∧ nbk k_ Ao28 x196000_1.length co28 ∧ nbk k_ Ao29 x196001_1.length co29) (.slice Ao30 x196002_1.length co30) x196002_1) ∧ (w'.heap[gb194]? = some (.cells #[.slice none 0 0, .slice none 0 0, .slice none 0 0] 29 (0, 0))) ∧ (w'.heap[gb195]? = some (.cells #[.slice Ao28 x196000_1.length co28, .slice Ao29 x196001_1.length co29, .slice Ao30 x196002_1.length co30] 29 (0, 0))) ∧ (w'.heap[gb196]? = some (.cells #[.int .i16 x197000_8, .int .i16 x197001_8, .bool x197002_8] 118 (0, 0))) ∧ (Below w.heap.size w w')) ?_ ?_
                      rotate_left
                      ·intro hJ12
                       refine join_ (σ := Value) 11 #[true, true, true, true, true, false, false, true, true, true, true, true, false, false, true, true, true, true, false, false, false, false, false, false, false] (fun s_ => [(42, s_)]) (fun s_ w' => (w'.cell? ⟨gb195, 0, none⟩ = some (.slice Ao28 x196000_1.length co28) ∧ w'.cell? ⟨gb195, 1, none⟩ = some (.slice Ao29 x196001_1.length co29) ∧ w'.cell? ⟨gb195, 2, none⟩ = some (.slice Ao30 x196002_1.length co30) ∧ w'.cell? ⟨gb196, 0, none⟩ = some (.int .i16 x197000_8) ∧ w'.cell? ⟨gb196, 1, none⟩ = some (.int .i16 x197001_8) ∧ w'.cell? ⟨gb196, 2, none⟩ = some (.bool x197002_8)) ∧ (Kd.R (Kd.int .i16) 38 w' w.heap.size (fun k_ => nbk k_ Ao28 x196000_1.length co28 ∧ nbk k_ Ao29 x196001_1.length co29 ∧ nbk k_ Ao30 x196002_1.length co30) s_ y211) ∧ (Kd.R (Kd.int .i16) 38 w' w.heap.size (fun k_ => some k_ ≠ (s_ : Value).ownBlock ∧ nbk k_ Ao29 x196001_1.length co29 ∧ nbk k_ Ao30 x196002_1.length co30) (.slice Ao28 x196000_1.length co28) x196000_1) ∧ (Kd.R (Kd.int .i16) 38 w' w.heap.size (fun k_ => some k_ ≠ (s_ : Value).ownBlock ∧ nbk k_ Ao28 x196000_1.length co28 ∧ nbk k_ Ao30 x196002_1.length co30) (.slice Ao29 x196001_1.length co29) x196001_1) ∧ (Kd.R (Kd.int .i16) 38 w' w.heap.size (fun k_ => some k_ ≠ (s_ : Value).ownBlock ∧ nbk k_ Ao28 x196000_1.length co28 ∧ nbk k_ Ao29 x196001_1.length co29) (.slice Ao30 x196002_1.length co30) x196002_1) ∧ (w'.heap[gb194]? = some (.cells #[.slice none 0 0, .slice none 0 0, .slice none 0 0] 29 (0, 0))) ∧ (w'.heap[gb195]? = some (.cells #[.slice Ao28 x196000_1.length co28, .slice Ao29 x196001_1.length co29, .slice Ao30 x196002_1.length co30] 29 (0, 0))) ∧ (w'.heap[gb196]? = some (.cells #[.int .i16 x197000_8, .int .i16 x197001_8, .bool x197002_8] 118 (0, 0))) ∧ (Below w.heap.size w w')) ?_ ?_
                       rotate_left
                       ·intro hJ17
                        refine three_ (i := 5) (j := 12) (k := 17) (Ni := some 30) (Nj := some 37) (Nk := some 42) #[true, true, true, true, true, true, false, true, true, true, true, true, false, false, true, true, true, false, false, false, false, false, false, false, false] #[true, true, true, true, true, false, false, true, true, true, true, true, true, false, true, true, true, false, false, false, false, false, false, false, false] #[true, true, true, true, true, false, false, true, true, true, true, true, false, false, true, true, true, true, false, false, false, false, false, false, false] rfl rfl rfl rfl rfl rfl (three_of HT_.out (by kernel_rfl)) (by decide) (by decide) (by decide) (fun K hK => ?_) (fun K hK => ?_) (fun K hK => ?_)
                        ·refine Kd.R_lit_step (Kd.int .i16) _ 38 ?hg (N := 30) ?hd (xs := ([x197000_8] : List Int)) (inner := [.int .i16 x197000_8]) (ok := fun _ => True) (okp := fun _ => True) ?hr ?hp (fun _ hk => hk) trivial (Below.refl _ _) (Nat.le_refl _) (by simp) ?_; (case hd => rfl); (case hg => rfl); (case hr => exact a142_); (case hp => exact a146_)
                         intro v200 w32 ho33 hb hg_ hnew_
                         clear hg_ hnew_
                         (first | rw [← Ny199.out] at ho33 | (simp only [Int.reduceToNat] at ho33; rw [← Ny199.out] at ho33))
                         have n0_ := Aside0.mk (Kd.R_elder' a95_ (Kd.R_base ho33) hb)
                         have n1_ := Aside0.mk (Kd.R_elder' a94_ (Kd.R_base ho33) hb)
                         have n2_ := Aside0.mk (Kd.R_elder' a93_ (Kd.R_base ho33) hb)
                         have n3_ := Aside0.mk (Kd.R_lower (Kd.R_new' (Kd.R_new' (Kd.R_new' ho33 (Kd.R_lt a95_)) (Kd.R_lt a94_)) (Kd.R_lt a93_)) (below_size a88_))
                         have n4_ := Aside0.mk (blk_below (g := gb194) a89_ hb)
                         have n5_ := Aside0.mk (blk_below (g := gb195) a90_ hb)
                         have n6_ := Aside0.mk (blk_below (g := gb196) a91_ hb)
                         have n7_ := Aside0.mk (below_step a88_ hb)
                         clear HO_196000 HO_196001 HO_196002 BK194 BK195 BK196 HB; have HO_196000 := n0_; have HO_196001 := n1_; have HO_196002 := n2_; have HO201 := n3_; have BK194 := n4_; have BK195 := n5_; have BK196 := n6_; have HB := n7_; clear n0_ n1_ n2_ n3_ n4_ n5_ n6_ n7_ hb ho33
                         refine hK.out _ _ ⟨(blk_cell BK195.out 0).trans rfl, (blk_cell BK195.out 1).trans rfl, (blk_cell BK195.out 2).trans rfl, (blk_cell BK196.out 0).trans rfl, (blk_cell BK196.out 1).trans rfl, (blk_cell BK196.out 2).trans rfl⟩ (fun hHeld => ?_)
                         clear hK K; refine norm_ (a' := ?_) ?_ ?_; rotate_left
                         ·show Act.put _ (some 30) _ = _
                          simp only [Act.put, List.setIfInBounds_toArray, List.set_cons_zero, List.set_cons_succ, i64_w, i32_w]
                          rfl
                         exact norm_ a92_ (hJ5 (v200) _ ⟨hHeld, (by (with_reducible repeat (first | apply Kd.R_alloc | apply Kd.R_drewN | apply Kd.R_drew)); exact Kd.R_mono HO201.out (fun _ hk => ⟨hk.1.1.2, ⟨hk.1.2, hk.2⟩⟩)), a108_, a109_, a110_, a89_, a90_, a91_, a88_⟩)
                        ·refine Kd.R_lit_step (Kd.int .i16) _ 38 ?hg (N := 37) ?hd (xs := ([x197001_8] : List Int)) (inner := [.int .i16 x197001_8]) (ok := fun _ => True) (okp := fun _ => True) ?hr ?hp (fun _ hk => hk) trivial (Below.refl _ _) (Nat.le_refl _) (by simp) ?_; (case hd => rfl); (case hg => rfl); (case hr => exact a142_); (case hp => exact a145_)
                         intro v206 w32 ho33 hb hg_ hnew_
                         clear hg_ hnew_
                         (first | rw [← Ny205.out] at ho33 | (simp only [Int.reduceToNat] at ho33; rw [← Ny205.out] at ho33))
                         have n0_ := Aside0.mk (Kd.R_elder' a95_ (Kd.R_base ho33) hb)
                         have n1_ := Aside0.mk (Kd.R_elder' a94_ (Kd.R_base ho33) hb)
                         have n2_ := Aside0.mk (Kd.R_elder' a93_ (Kd.R_base ho33) hb)
                         have n3_ := Aside0.mk (Kd.R_lower (Kd.R_new' (Kd.R_new' (Kd.R_new' ho33 (Kd.R_lt a95_)) (Kd.R_lt a94_)) (Kd.R_lt a93_)) (below_size a88_))
                         have n4_ := Aside0.mk (blk_below (g := gb194) a89_ hb)
                         have n5_ := Aside0.mk (blk_below (g := gb195) a90_ hb)
                         have n6_ := Aside0.mk (blk_below (g := gb196) a91_ hb)
                         have n7_ := Aside0.mk (below_step a88_ hb)
                         clear HO_196000 HO_196001 HO_196002 BK194 BK195 BK196 HB; have HO_196000 := n0_; have HO_196001 := n1_; have HO_196002 := n2_; have HO207 := n3_; have BK194 := n4_; have BK195 := n5_; have BK196 := n6_; have HB := n7_; clear n0_ n1_ n2_ n3_ n4_ n5_ n6_ n7_ hb ho33
                         refine hK.out _ _ ⟨(blk_cell BK195.out 0).trans rfl, (blk_cell BK195.out 1).trans rfl, (blk_cell BK195.out 2).trans rfl, (blk_cell BK196.out 0).trans rfl, (blk_cell BK196.out 1).trans rfl, (blk_cell BK196.out 2).trans rfl⟩ (fun hHeld => ?_)
                         clear hK K; refine norm_ (a' := ?_) ?_ ?_; rotate_left
                         ·show Act.put _ (some 37) _ = _
                          simp only [Act.put, List.setIfInBounds_toArray, List.set_cons_zero, List.set_cons_succ, i64_w, i32_w]
                          rfl
                         exact norm_ a92_ (hJ12 (v206) _ ⟨hHeld, (by (with_reducible repeat (first | apply Kd.R_alloc | apply Kd.R_drewN | apply Kd.R_drew)); exact Kd.R_mono HO207.out (fun _ hk => ⟨hk.1.1.2, ⟨hk.1.2, hk.2⟩⟩)), a108_, a109_, a110_, a89_, a90_, a91_, a88_⟩)
                        ·refine Kd.R_lit_step (Kd.int .i16) _ 38 ?hg (N := 42) ?hd (xs := ([x8_19] : List Int)) (inner := [.int .i16 x8_19]) (ok := fun _ => True) (okp := fun _ => True) ?hr ?hp (fun _ hk => hk) trivial (Below.refl _ _) (Nat.le_refl _) (by simp) ?_; (case hd => rfl); (case hg => rfl); (case hr => exact a142_); (case hp => exact a144_)
                         intro v212 w32 ho33 hb hg_ hnew_
                         clear hg_ hnew_
                         (first | rw [← Ny211.out] at ho33 | (simp only [Int.reduceToNat] at ho33; rw [← Ny211.out] at ho33))
                         have n0_ := Aside0.mk (Kd.R_elder' a95_ (Kd.R_base ho33) hb)
                         have n1_ := Aside0.mk (Kd.R_elder' a94_ (Kd.R_base ho33) hb)
                         have n2_ := Aside0.mk (Kd.R_elder' a93_ (Kd.R_base ho33) hb)
                         have n3_ := Aside0.mk (Kd.R_lower (Kd.R_new' (Kd.R_new' (Kd.R_new' ho33 (Kd.R_lt a95_)) (Kd.R_lt a94_)) (Kd.R_lt a93_)) (below_size a88_))
                         have n4_ := Aside0.mk (blk_below (g := gb194) a89_ hb)
                         have n5_ := Aside0.mk (blk_below (g := gb195) a90_ hb)
                         have n6_ := Aside0.mk (blk_below (g := gb196) a91_ hb)
                         have n7_ := Aside0.mk (below_step a88_ hb)
                         clear HO_196000 HO_196001 HO_196002 BK194 BK195 BK196 HB; have HO_196000 := n0_; have HO_196001 := n1_; have HO_196002 := n2_; have HO213 := n3_; have BK194 := n4_; have BK195 := n5_; have BK196 := n6_; have HB := n7_; clear n0_ n1_ n2_ n3_ n4_ n5_ n6_ n7_ hb ho33
                         refine hK.out _ _ ⟨(blk_cell BK195.out 0).trans rfl, (blk_cell BK195.out 1).trans rfl, (blk_cell BK195.out 2).trans rfl, (blk_cell BK196.out 0).trans rfl, (blk_cell BK196.out 1).trans rfl, (blk_cell BK196.out 2).trans rfl⟩ (fun hHeld => ?_)
                         clear hK K; refine norm_ (a' := ?_) ?_ ?_; rotate_left
                         ·show Act.put _ (some 42) _ = _
                          simp only [Act.put, List.setIfInBounds_toArray, List.set_cons_zero, List.set_cons_succ, i64_w, i32_w]
                          rfl
                         exact norm_ a92_ (hJ17 (v212) _ ⟨hHeld, (by (with_reducible repeat (first | apply Kd.R_alloc | apply Kd.R_drewN | apply Kd.R_drew)); exact Kd.R_mono HO213.out (fun _ hk => ⟨hk.1.1.2, ⟨hk.1.2, hk.2⟩⟩)), a108_, a109_, a110_, a89_, a90_, a91_, a88_⟩)
                       ·rintro v212 w34 ⟨hS_, h0_, h1_, h2_, h3_, h4_, h5_, h6_, h7_⟩
                        have n0_ : Aside0 (Kd.R (Kd.int .i16) 38 w34 w.heap.size (fun k_ => nbk k_ Ao28 x196000_1.length co28 ∧ nbk k_ Ao29 x196001_1.length co29 ∧ nbk k_ Ao30 x196002_1.length co30) v212 y211) := ⟨h0_⟩
                        have n1_ : Aside0 (Kd.R (Kd.int .i16) 38 w34 w.heap.size (fun k_ => some k_ ≠ (v212 : Value).ownBlock ∧ nbk k_ Ao29 x196001_1.length co29 ∧ nbk k_ Ao30 x196002_1.length co30) (.slice Ao28 x196000_1.length co28) x196000_1) := ⟨h1_⟩
                        have n2_ : Aside0 (Kd.R (Kd.int .i16) 38 w34 w.heap.size (fun k_ => some k_ ≠ (v212 : Value).ownBlock ∧ nbk k_ Ao28 x196000_1.length co28 ∧ nbk k_ Ao30 x196002_1.length co30) (.slice Ao29 x196001_1.length co29) x196001_1) := ⟨h2_⟩
                        have n3_ : Aside0 (Kd.R (Kd.int .i16) 38 w34 w.heap.size (fun k_ => some k_ ≠ (v212 : Value).ownBlock ∧ nbk k_ Ao28 x196000_1.length co28 ∧ nbk k_ Ao29 x196001_1.length co29) (.slice Ao30 x196002_1.length co30) x196002_1) := ⟨h3_⟩
                        have n4_ : Aside0 (w34.heap[gb194]? = some (.cells #[.slice none 0 0, .slice none 0 0, .slice none 0 0] 29 (0, 0))) := ⟨h4_⟩
                        have n5_ : Aside0 (w34.heap[gb195]? = some (.cells #[.slice Ao28 x196000_1.length co28, .slice Ao29 x196001_1.length co29, .slice Ao30 x196002_1.length co30] 29 (0, 0))) := ⟨h5_⟩
                        have n6_ : Aside0 (w34.heap[gb196]? = some (.cells #[.int .i16 x197000_8, .int .i16 x197001_8, .bool x197002_8] 118 (0, 0))) := ⟨h6_⟩
                        have n7_ : Aside0 (Below w.heap.size w w34) := ⟨h7_⟩
                        clear HO_196000 HO_196001 HO_196002 BK194 BK195 BK196 HB h0_ h1_ h2_ h3_ h4_ h5_ h6_ h7_; have HO213 := n0_; have HO_196000 := n1_; have HO_196001 := n2_; have HO_196002 := n3_; have BK194 := n4_; have BK195 := n5_; have BK196 := n6_; have HB := n7_; clear n0_ n1_ n2_ n3_ n4_ n5_ n6_ n7_
                        have hHeld : w34.cell? ⟨gb195, 0, none⟩ = some (.slice Ao28 x196000_1.length co28) ∧ w34.cell? ⟨gb195, 1, none⟩ = some (.slice Ao29 x196001_1.length co29) ∧ w34.cell? ⟨gb195, 2, none⟩ = some (.slice Ao30 x196002_1.length co30) ∧ w34.cell? ⟨gb196, 0, none⟩ = some (.int .i16 x197000_8) ∧ w34.cell? ⟨gb196, 1, none⟩ = some (.int .i16 x197001_8) ∧ w34.cell? ⟨gb196, 2, none⟩ = some (.bool x197002_8) := hS_
                        refine norm_ (a' := ?_) ?_ ?_; rotate_left
                        ·simp only [putAll, Act.put, List.setIfInBounds_toArray, List.set_cons_zero, List.set_cons_succ]
                         rfl
                        refine two_ (i := 5) (j := 12) (Ni := some 30) (Nj := some 37) #[true, true, true, true, true, true, false, true, true, true, true, true, false, false, true, true, true, true, false, false, false, false, false, false, false] #[true, true, true, true, true, false, false, true, true, true, true, true, true, false, true, true, true, true, false, false, false, false, false, false, false] rfl rfl rfl rfl (two_of HT_.out (by kernel_rfl)) (by decide) (by decide) (fun K hK => ?_) (fun K hK => ?_)
                        ·refine Kd.R_lit_step (Kd.int .i16) _ 38 ?hg (N := 30) ?hd (xs := ([x197000_8] : List Int)) (inner := [.int .i16 x197000_8]) (ok := fun _ => True) (okp := fun _ => True) ?hr ?hp (fun _ hk => hk) trivial (Below.refl _ _) (Nat.le_refl _) (by simp) ?_; (case hd => rfl); (case hg => rfl); (case hr => exact a142_); (case hp => exact a146_)
                         intro v200 w35 ho36 hb hg_ hnew_
                         clear hg_ hnew_
                         (first | rw [← Ny199.out] at ho36 | (simp only [Int.reduceToNat] at ho36; rw [← Ny199.out] at ho36))
                         have n0_ := Aside0.mk (Kd.R_elder' a95_ (Kd.R_base ho36) hb)
                         have n1_ := Aside0.mk (Kd.R_elder' a94_ (Kd.R_base ho36) hb)
                         have n2_ := Aside0.mk (Kd.R_elder' a93_ (Kd.R_base ho36) hb)
                         have n3_ := Aside0.mk (Kd.R_elder' a98_ (Kd.R_base ho36) hb)
                         have n4_ := Aside0.mk (Kd.R_lower (Kd.R_new' (Kd.R_new' (Kd.R_new' (Kd.R_new' ho36 (Kd.R_lt a95_)) (Kd.R_lt a94_)) (Kd.R_lt a93_)) (Kd.R_lt a98_)) (below_size a88_))
                         have n5_ := Aside0.mk (blk_below (g := gb194) a89_ hb)
                         have n6_ := Aside0.mk (blk_below (g := gb195) a90_ hb)
                         have n7_ := Aside0.mk (blk_below (g := gb196) a91_ hb)
                         have n8_ := Aside0.mk (below_step a88_ hb)
                         clear HO_196000 HO_196001 HO_196002 HO213 BK194 BK195 BK196 HB; have HO_196000 := n0_; have HO_196001 := n1_; have HO_196002 := n2_; have HO213 := n3_; have HO201 := n4_; have BK194 := n5_; have BK195 := n6_; have BK196 := n7_; have HB := n8_; clear n0_ n1_ n2_ n3_ n4_ n5_ n6_ n7_ n8_ hb ho36
                         refine hK.out _ _ ⟨(blk_cell BK195.out 0).trans rfl, (blk_cell BK195.out 1).trans rfl, (blk_cell BK195.out 2).trans rfl, (blk_cell BK196.out 0).trans rfl, (blk_cell BK196.out 1).trans rfl, (blk_cell BK196.out 2).trans rfl⟩ (fun hHeld => ?_)
                         clear hK K; refine norm_ (a' := ?_) ?_ ?_; rotate_left
                         ·show Act.put _ (some 30) _ = _
                          simp only [Act.put, List.setIfInBounds_toArray, List.set_cons_zero, List.set_cons_succ, i64_w, i32_w]
                          rfl
                         exact norm_ a92_ (hJ5_17 (v200, v212) _ ⟨hHeld, a126_, a129_, a101_, a102_, a103_, a89_, a90_, a91_, a88_⟩)
                        ·refine Kd.R_lit_step (Kd.int .i16) _ 38 ?hg (N := 37) ?hd (xs := ([x197001_8] : List Int)) (inner := [.int .i16 x197001_8]) (ok := fun _ => True) (okp := fun _ => True) ?hr ?hp (fun _ hk => hk) trivial (Below.refl _ _) (Nat.le_refl _) (by simp) ?_; (case hd => rfl); (case hg => rfl); (case hr => exact a142_); (case hp => exact a145_)
                         intro v206 w35 ho36 hb hg_ hnew_
                         clear hg_ hnew_
                         (first | rw [← Ny205.out] at ho36 | (simp only [Int.reduceToNat] at ho36; rw [← Ny205.out] at ho36))
                         have n0_ := Aside0.mk (Kd.R_elder' a95_ (Kd.R_base ho36) hb)
                         have n1_ := Aside0.mk (Kd.R_elder' a94_ (Kd.R_base ho36) hb)
                         have n2_ := Aside0.mk (Kd.R_elder' a93_ (Kd.R_base ho36) hb)
                         have n3_ := Aside0.mk (Kd.R_elder' a98_ (Kd.R_base ho36) hb)
                         have n4_ := Aside0.mk (Kd.R_lower (Kd.R_new' (Kd.R_new' (Kd.R_new' (Kd.R_new' ho36 (Kd.R_lt a95_)) (Kd.R_lt a94_)) (Kd.R_lt a93_)) (Kd.R_lt a98_)) (below_size a88_))
                         have n5_ := Aside0.mk (blk_below (g := gb194) a89_ hb)
                         have n6_ := Aside0.mk (blk_below (g := gb195) a90_ hb)
                         have n7_ := Aside0.mk (blk_below (g := gb196) a91_ hb)
                         have n8_ := Aside0.mk (below_step a88_ hb)
                         clear HO_196000 HO_196001 HO_196002 HO213 BK194 BK195 BK196 HB; have HO_196000 := n0_; have HO_196001 := n1_; have HO_196002 := n2_; have HO213 := n3_; have HO207 := n4_; have BK194 := n5_; have BK195 := n6_; have BK196 := n7_; have HB := n8_; clear n0_ n1_ n2_ n3_ n4_ n5_ n6_ n7_ n8_ hb ho36
                         refine hK.out _ _ ⟨(blk_cell BK195.out 0).trans rfl, (blk_cell BK195.out 1).trans rfl, (blk_cell BK195.out 2).trans rfl, (blk_cell BK196.out 0).trans rfl, (blk_cell BK196.out 1).trans rfl, (blk_cell BK196.out 2).trans rfl⟩ (fun hHeld => ?_)
                         clear hK K; refine norm_ (a' := ?_) ?_ ?_; rotate_left
                         ·show Act.put _ (some 37) _ = _
                          simp only [Act.put, List.setIfInBounds_toArray, List.set_cons_zero, List.set_cons_succ, i64_w, i32_w]
                          rfl
                         exact norm_ a92_ (hJ12_17 (v206, v212) _ ⟨hHeld, a127_, a129_, a101_, a102_, a103_, a89_, a90_, a91_, a88_⟩)
                      ·rintro v206 w34 ⟨hS_, h0_, h1_, h2_, h3_, h4_, h5_, h6_, h7_⟩
                       have n0_ : Aside0 (Kd.R (Kd.int .i16) 38 w34 w.heap.size (fun k_ => nbk k_ Ao28 x196000_1.length co28 ∧ nbk k_ Ao29 x196001_1.length co29 ∧ nbk k_ Ao30 x196002_1.length co30) v206 y205) := ⟨h0_⟩
                       have n1_ : Aside0 (Kd.R (Kd.int .i16) 38 w34 w.heap.size (fun k_ => some k_ ≠ (v206 : Value).ownBlock ∧ nbk k_ Ao29 x196001_1.length co29 ∧ nbk k_ Ao30 x196002_1.length co30) (.slice Ao28 x196000_1.length co28) x196000_1) := ⟨h1_⟩
                       have n2_ : Aside0 (Kd.R (Kd.int .i16) 38 w34 w.heap.size (fun k_ => some k_ ≠ (v206 : Value).ownBlock ∧ nbk k_ Ao28 x196000_1.length co28 ∧ nbk k_ Ao30 x196002_1.length co30) (.slice Ao29 x196001_1.length co29) x196001_1) := ⟨h2_⟩
                       have n3_ : Aside0 (Kd.R (Kd.int .i16) 38 w34 w.heap.size (fun k_ => some k_ ≠ (v206 : Value).ownBlock ∧ nbk k_ Ao28 x196000_1.length co28 ∧ nbk k_ Ao29 x196001_1.length co29) (.slice Ao30 x196002_1.length co30) x196002_1) := ⟨h3_⟩
                       have n4_ : Aside0 (w34.heap[gb194]? = some (.cells #[.slice none 0 0, .slice none 0 0, .slice none 0 0] 29 (0, 0))) := ⟨h4_⟩
                       have n5_ : Aside0 (w34.heap[gb195]? = some (.cells #[.slice Ao28 x196000_1.length co28, .slice Ao29 x196001_1.length co29, .slice Ao30 x196002_1.length co30] 29 (0, 0))) := ⟨h5_⟩
                       have n6_ : Aside0 (w34.heap[gb196]? = some (.cells #[.int .i16 x197000_8, .int .i16 x197001_8, .bool x197002_8] 118 (0, 0))) := ⟨h6_⟩
                       have n7_ : Aside0 (Below w.heap.size w w34) := ⟨h7_⟩
                       clear HO_196000 HO_196001 HO_196002 BK194 BK195 BK196 HB h0_ h1_ h2_ h3_ h4_ h5_ h6_ h7_; have HO207 := n0_; have HO_196000 := n1_; have HO_196001 := n2_; have HO_196002 := n3_; have BK194 := n4_; have BK195 := n5_; have BK196 := n6_; have HB := n7_; clear n0_ n1_ n2_ n3_ n4_ n5_ n6_ n7_
                       have hHeld : w34.cell? ⟨gb195, 0, none⟩ = some (.slice Ao28 x196000_1.length co28) ∧ w34.cell? ⟨gb195, 1, none⟩ = some (.slice Ao29 x196001_1.length co29) ∧ w34.cell? ⟨gb195, 2, none⟩ = some (.slice Ao30 x196002_1.length co30) ∧ w34.cell? ⟨gb196, 0, none⟩ = some (.int .i16 x197000_8) ∧ w34.cell? ⟨gb196, 1, none⟩ = some (.int .i16 x197001_8) ∧ w34.cell? ⟨gb196, 2, none⟩ = some (.bool x197002_8) := hS_
                       refine norm_ (a' := ?_) ?_ ?_; rotate_left
                       ·simp only [putAll, Act.put, List.setIfInBounds_toArray, List.set_cons_zero, List.set_cons_succ]
                        rfl
                       refine two_ (i := 5) (j := 17) (Ni := some 30) (Nj := some 42) #[true, true, true, true, true, true, false, true, true, true, true, true, true, false, true, true, true, false, false, false, false, false, false, false, false] #[true, true, true, true, true, false, false, true, true, true, true, true, true, false, true, true, true, true, false, false, false, false, false, false, false] rfl rfl rfl rfl (two_of HT_.out (by kernel_rfl)) (by decide) (by decide) (fun K hK => ?_) (fun K hK => ?_)
                       ·refine Kd.R_lit_step (Kd.int .i16) _ 38 ?hg (N := 30) ?hd (xs := ([x197000_8] : List Int)) (inner := [.int .i16 x197000_8]) (ok := fun _ => True) (okp := fun _ => True) ?hr ?hp (fun _ hk => hk) trivial (Below.refl _ _) (Nat.le_refl _) (by simp) ?_; (case hd => rfl); (case hg => rfl); (case hr => exact a142_); (case hp => exact a146_)
                        intro v200 w35 ho36 hb hg_ hnew_
                        clear hg_ hnew_
                        (first | rw [← Ny199.out] at ho36 | (simp only [Int.reduceToNat] at ho36; rw [← Ny199.out] at ho36))
                        have n0_ := Aside0.mk (Kd.R_elder' a95_ (Kd.R_base ho36) hb)
                        have n1_ := Aside0.mk (Kd.R_elder' a94_ (Kd.R_base ho36) hb)
                        have n2_ := Aside0.mk (Kd.R_elder' a93_ (Kd.R_base ho36) hb)
                        have n3_ := Aside0.mk (Kd.R_elder' a97_ (Kd.R_base ho36) hb)
                        have n4_ := Aside0.mk (Kd.R_lower (Kd.R_new' (Kd.R_new' (Kd.R_new' (Kd.R_new' ho36 (Kd.R_lt a95_)) (Kd.R_lt a94_)) (Kd.R_lt a93_)) (Kd.R_lt a97_)) (below_size a88_))
                        have n5_ := Aside0.mk (blk_below (g := gb194) a89_ hb)
                        have n6_ := Aside0.mk (blk_below (g := gb195) a90_ hb)
                        have n7_ := Aside0.mk (blk_below (g := gb196) a91_ hb)
                        have n8_ := Aside0.mk (below_step a88_ hb)
                        clear HO_196000 HO_196001 HO_196002 HO207 BK194 BK195 BK196 HB; have HO_196000 := n0_; have HO_196001 := n1_; have HO_196002 := n2_; have HO207 := n3_; have HO201 := n4_; have BK194 := n5_; have BK195 := n6_; have BK196 := n7_; have HB := n8_; clear n0_ n1_ n2_ n3_ n4_ n5_ n6_ n7_ n8_ hb ho36
                        refine hK.out _ _ ⟨(blk_cell BK195.out 0).trans rfl, (blk_cell BK195.out 1).trans rfl, (blk_cell BK195.out 2).trans rfl, (blk_cell BK196.out 0).trans rfl, (blk_cell BK196.out 1).trans rfl, (blk_cell BK196.out 2).trans rfl⟩ (fun hHeld => ?_)
                        clear hK K; refine norm_ (a' := ?_) ?_ ?_; rotate_left
                        ·show Act.put _ (some 30) _ = _
                         simp only [Act.put, List.setIfInBounds_toArray, List.set_cons_zero, List.set_cons_succ, i64_w, i32_w]
                         rfl
                        exact norm_ a92_ (hJ5_12 (v200, v206) _ ⟨hHeld, a126_, a130_, a101_, a102_, a103_, a89_, a90_, a91_, a88_⟩)
                       ·refine Kd.R_lit_step (Kd.int .i16) _ 38 ?hg (N := 42) ?hd (xs := ([x8_19] : List Int)) (inner := [.int .i16 x8_19]) (ok := fun _ => True) (okp := fun _ => True) ?hr ?hp (fun _ hk => hk) trivial (Below.refl _ _) (Nat.le_refl _) (by simp) ?_; (case hd => rfl); (case hg => rfl); (case hr => exact a142_); (case hp => exact a144_)
                        intro v212 w35 ho36 hb hg_ hnew_
                        clear hg_ hnew_
                        (first | rw [← Ny211.out] at ho36 | (simp only [Int.reduceToNat] at ho36; rw [← Ny211.out] at ho36))
                        have n0_ := Aside0.mk (Kd.R_elder' a95_ (Kd.R_base ho36) hb)
                        have n1_ := Aside0.mk (Kd.R_elder' a94_ (Kd.R_base ho36) hb)
                        have n2_ := Aside0.mk (Kd.R_elder' a93_ (Kd.R_base ho36) hb)
                        have n3_ := Aside0.mk (Kd.R_elder' a97_ (Kd.R_base ho36) hb)
                        have n4_ := Aside0.mk (Kd.R_lower (Kd.R_new' (Kd.R_new' (Kd.R_new' (Kd.R_new' ho36 (Kd.R_lt a95_)) (Kd.R_lt a94_)) (Kd.R_lt a93_)) (Kd.R_lt a97_)) (below_size a88_))
                        have n5_ := Aside0.mk (blk_below (g := gb194) a89_ hb)
                        have n6_ := Aside0.mk (blk_below (g := gb195) a90_ hb)
                        have n7_ := Aside0.mk (blk_below (g := gb196) a91_ hb)
                        have n8_ := Aside0.mk (below_step a88_ hb)
                        clear HO_196000 HO_196001 HO_196002 HO207 BK194 BK195 BK196 HB; have HO_196000 := n0_; have HO_196001 := n1_; have HO_196002 := n2_; have HO207 := n3_; have HO213 := n4_; have BK194 := n5_; have BK195 := n6_; have BK196 := n7_; have HB := n8_; clear n0_ n1_ n2_ n3_ n4_ n5_ n6_ n7_ n8_ hb ho36
                        refine hK.out _ _ ⟨(blk_cell BK195.out 0).trans rfl, (blk_cell BK195.out 1).trans rfl, (blk_cell BK195.out 2).trans rfl, (blk_cell BK196.out 0).trans rfl, (blk_cell BK196.out 1).trans rfl, (blk_cell BK196.out 2).trans rfl⟩ (fun hHeld => ?_)
                        clear hK K; refine norm_ (a' := ?_) ?_ ?_; rotate_left
                        ·show Act.put _ (some 42) _ = _
                         simp only [Act.put, List.setIfInBounds_toArray, List.set_cons_zero, List.set_cons_succ, i64_w, i32_w]
                         rfl
                        exact norm_ a92_ (hJ12_17 (v206, v212) _ ⟨hHeld, a130_, a128_, a104_, a105_, a106_, a89_, a90_, a91_, a88_⟩)
                     ·rintro v200 w34 ⟨hS_, h0_, h1_, h2_, h3_, h4_, h5_, h6_, h7_⟩
                      have n0_ : Aside0 (Kd.R (Kd.int .i16) 38 w34 w.heap.size (fun k_ => nbk k_ Ao28 x196000_1.length co28 ∧ nbk k_ Ao29 x196001_1.length co29 ∧ nbk k_ Ao30 x196002_1.length co30) v200 y199) := ⟨h0_⟩
                      have n1_ : Aside0 (Kd.R (Kd.int .i16) 38 w34 w.heap.size (fun k_ => some k_ ≠ (v200 : Value).ownBlock ∧ nbk k_ Ao29 x196001_1.length co29 ∧ nbk k_ Ao30 x196002_1.length co30) (.slice Ao28 x196000_1.length co28) x196000_1) := ⟨h1_⟩
                      have n2_ : Aside0 (Kd.R (Kd.int .i16) 38 w34 w.heap.size (fun k_ => some k_ ≠ (v200 : Value).ownBlock ∧ nbk k_ Ao28 x196000_1.length co28 ∧ nbk k_ Ao30 x196002_1.length co30) (.slice Ao29 x196001_1.length co29) x196001_1) := ⟨h2_⟩
                      have n3_ : Aside0 (Kd.R (Kd.int .i16) 38 w34 w.heap.size (fun k_ => some k_ ≠ (v200 : Value).ownBlock ∧ nbk k_ Ao28 x196000_1.length co28 ∧ nbk k_ Ao29 x196001_1.length co29) (.slice Ao30 x196002_1.length co30) x196002_1) := ⟨h3_⟩
                      have n4_ : Aside0 (w34.heap[gb194]? = some (.cells #[.slice none 0 0, .slice none 0 0, .slice none 0 0] 29 (0, 0))) := ⟨h4_⟩
                      have n5_ : Aside0 (w34.heap[gb195]? = some (.cells #[.slice Ao28 x196000_1.length co28, .slice Ao29 x196001_1.length co29, .slice Ao30 x196002_1.length co30] 29 (0, 0))) := ⟨h5_⟩
                      have n6_ : Aside0 (w34.heap[gb196]? = some (.cells #[.int .i16 x197000_8, .int .i16 x197001_8, .bool x197002_8] 118 (0, 0))) := ⟨h6_⟩
                      have n7_ : Aside0 (Below w.heap.size w w34) := ⟨h7_⟩
                      clear HO_196000 HO_196001 HO_196002 BK194 BK195 BK196 HB h0_ h1_ h2_ h3_ h4_ h5_ h6_ h7_; have HO201 := n0_; have HO_196000 := n1_; have HO_196001 := n2_; have HO_196002 := n3_; have BK194 := n4_; have BK195 := n5_; have BK196 := n6_; have HB := n7_; clear n0_ n1_ n2_ n3_ n4_ n5_ n6_ n7_
                      have hHeld : w34.cell? ⟨gb195, 0, none⟩ = some (.slice Ao28 x196000_1.length co28) ∧ w34.cell? ⟨gb195, 1, none⟩ = some (.slice Ao29 x196001_1.length co29) ∧ w34.cell? ⟨gb195, 2, none⟩ = some (.slice Ao30 x196002_1.length co30) ∧ w34.cell? ⟨gb196, 0, none⟩ = some (.int .i16 x197000_8) ∧ w34.cell? ⟨gb196, 1, none⟩ = some (.int .i16 x197001_8) ∧ w34.cell? ⟨gb196, 2, none⟩ = some (.bool x197002_8) := hS_
                      obtain ⟨Ao36, co36, eo36⟩ := Kd.R_slice HO201.out
                      (first | subst eo36 | (injection eo36 with f1_ f2_ f3_; have f4_ := f1_.symm; have f5_ := f3_.symm; clear f1_ f2_ f3_; subst f4_; subst f5_))
                      refine norm_ (a' := ?_) ?_ ?_; rotate_left
                      ·simp only [putAll, Act.put, List.setIfInBounds_toArray, List.set_cons_zero, List.set_cons_succ]
                       rfl
                      refine three_ (i := 6) (j := 12) (k := 17) (Ni := some 31) (Nj := some 37) (Nk := some 42) #[true, true, true, true, true, true, true, true, true, true, true, true, false, false, true, true, true, false, false, false, false, false, false, false, false] #[true, true, true, true, true, true, false, true, true, true, true, true, true, false, true, true, true, false, false, false, false, false, false, false, false] #[true, true, true, true, true, true, false, true, true, true, true, true, false, false, true, true, true, true, false, false, false, false, false, false, false] rfl rfl rfl rfl rfl rfl (three_of HT_.out (by kernel_rfl)) (by decide) (by decide) (by decide) (fun K hK => ?_) (fun K hK => ?_) (fun K hK => ?_)
                      ·refine Kd.R_append_rows_step (Kd.int .i16) (w0 := w) w.heap.size (by rfl) (.tmp 26) (.tmp 30) 27 38 (.int .i16 0) 2 rfl Try.underlying27 info38 rfl (by decide) (by omega) (.slice Ao28 x196000_1.length co28) x196000_1 y199 _ _ _ (fun k_ => nbk k_ Ao29 x196001_1.length co29 ∧ nbk k_ Ao30 x196002_1.length co30 ∧ nbk k_ Ao36 y199.length co36) (fun _ => False) rfl rfl ?aO ?aR (fun _ _ h => h) (fun _ h => h.elim) ?aF ?aB ?aS ?aL ?_
                       (case aR => exact a143_); (case aB => exact a88_)
                       (case aF => exact (fun k_ hk => ⟨Kd.fresh' (Kd.R_lt a94_) k_ hk, Kd.fresh' (Kd.R_lt a93_) k_ hk, Kd.fresh' (Kd.R_lt a96_) k_ hk⟩))
                       (case aO => exact (by (with_reducible repeat (first | apply Kd.R_alloc | apply Kd.R_drewN | apply Kd.R_drew)); exact Kd.R_mono HO_196000.out (fun _ hk => ⟨hk.2.1, ⟨hk.2.2, hk.1⟩⟩)))
                       (case aS => exact (below_size a88_))
                       (case aL => have := LMc25.out; omega)
                       intro v203 w35 ho hb hg hat
                       rw [← Ny202.out] at ho
                       have n0_ := Aside0.mk (Kd.R_after (ok := (fun k_ => nbk k_ Ao30 x196002_1.length co30 ∧ nbk k_ Ao36 y199.length co36)) (by (with_reducible repeat (first | apply Kd.R_alloc | apply Kd.R_drewN | apply Kd.R_drew)); exact Kd.R_mono HO_196001.out (fun _ hk => ⟨⟨hk.2.2, hk.1⟩, hk.2.1⟩)) hg hat)
                       have n1_ := Aside0.mk (Kd.R_after (ok := (fun k_ => nbk k_ Ao29 x196001_1.length co29 ∧ nbk k_ Ao36 y199.length co36)) (by (with_reducible repeat (first | apply Kd.R_alloc | apply Kd.R_drewN | apply Kd.R_drew)); exact Kd.R_mono HO_196002.out (fun _ hk => ⟨⟨hk.2.2, hk.1⟩, hk.2.1⟩)) hg hat)
                       have n2_ := Aside0.mk (blk_grown (g := gb194) (o := .cells #[.slice none 0 0, .slice none 0 0, .slice none 0 0] 29 (0, 0)) a89_ hg (Kd.R_ne HO_196000.out BK194.out (by decide)))
                       have n3_ := Aside0.mk (blk_grown (g := gb195) (o := .cells #[.slice Ao28 x196000_1.length co28, .slice Ao29 x196001_1.length co29, .slice Ao30 x196002_1.length co30] 29 (0, 0)) a90_ hg (Kd.R_ne HO_196000.out BK195.out (by decide)))
                       have n4_ := Aside0.mk (blk_grown (g := gb196) (o := .cells #[.int .i16 x197000_8, .int .i16 x197001_8, .bool x197002_8] 118 (0, 0)) a91_ hg (Kd.R_ne HO_196000.out BK196.out (by decide)))
                       have n5_ := Aside0.mk (Kd.R_after (ok := (fun k_ => nbk k_ Ao29 x196001_1.length co29 ∧ nbk k_ Ao30 x196002_1.length co30)) (by (with_reducible repeat (first | apply Kd.R_alloc | apply Kd.R_drewN | apply Kd.R_drew)); exact Kd.R_mono HO201.out (fun _ hk => ⟨⟨hk.2.1, hk.2.2⟩, hk.1⟩)) hg hat)
                       have n6_ := Aside0.mk (hb)
                       have n7_ := Aside0.mk (ho)
                       clear HO_196001 HO_196002 BK194 BK195 BK196 HO201 HB HO_196000; have HO_196001 := n0_; have HO_196002 := n1_; have BK194 := n2_; have BK195 := n3_; have BK196 := n4_; have HO201 := n5_; have HB := n6_; have HO204 := n7_; clear n0_ n1_ n2_ n3_ n4_ n5_ n6_ n7_ ho hb hg hat
                       refine hK.out _ _ ⟨(blk_cell BK195.out 0).trans rfl, (blk_cell BK195.out 1).trans rfl, (blk_cell BK195.out 2).trans rfl, (blk_cell BK196.out 0).trans rfl, (blk_cell BK196.out 1).trans rfl, (blk_cell BK196.out 2).trans rfl⟩ (fun hHeld => ?_)
                       clear hK K; refine norm_ (a' := ?_) ?_ ?_; rotate_left
                       ·show Act.put _ (some 31) _ = _
                        simp only [Act.put, List.setIfInBounds_toArray, List.set_cons_zero, List.set_cons_succ, i64_w, i32_w]
                        rfl
                       refine pure_ (i := 19) (N := some 44) (v := ?_) (a' := ?_) #[true, true, true, true, true, true, true, true, true, true, true, true, false, false, true, true, true, false, false, true, false, false, false, false, false] rfl rfl (any_of HT_.out (by kernel_rfl)) (fun _ _ _ h => h) (Or.inl ⟨by rfl, ?_⟩) ?_ ?_
                       rotate_left
                       ·intro w'
                        go_simp; with_reducible rfl
                       rotate_left
                       ·simp only [Act.put, List.setIfInBounds_toArray, List.set_cons_zero, List.set_cons_succ, i64_w, i32_w]
                        rfl
                       exact norm_ a92_ (hJ5_6 (.slice Ao36 y199.length co36, v203) _ ⟨hHeld, (by (with_reducible repeat (first | apply Kd.R_alloc | apply Kd.R_drewN | apply Kd.R_drew)); exact Kd.R_mono HO201.out (fun _ hk => ⟨hk.2, ⟨hk.1.1, hk.1.2⟩⟩)), (by (with_reducible repeat (first | apply Kd.R_alloc | apply Kd.R_drewN | apply Kd.R_drew)); exact Kd.R_mono HO204.out (fun _ hk => ⟨hk.2.2, ⟨hk.1, hk.2.1⟩⟩)), (by (with_reducible repeat (first | apply Kd.R_alloc | apply Kd.R_drewN | apply Kd.R_drew)); exact Kd.R_mono HO_196001.out (fun _ hk => ⟨hk.1.2, ⟨hk.2, hk.1.1⟩⟩)), (by (with_reducible repeat (first | apply Kd.R_alloc | apply Kd.R_drewN | apply Kd.R_drew)); exact Kd.R_mono HO_196002.out (fun _ hk => ⟨hk.1.2, ⟨hk.2, hk.1.1⟩⟩)), a89_, a90_, a91_, a88_⟩)
                      ·refine Kd.R_lit_step (Kd.int .i16) _ 38 ?hg (N := 37) ?hd (xs := ([x197001_8] : List Int)) (inner := [.int .i16 x197001_8]) (ok := fun _ => True) (okp := fun _ => True) ?hr ?hp (fun _ hk => hk) trivial (Below.refl _ _) (Nat.le_refl _) (by simp) ?_; (case hd => rfl); (case hg => rfl); (case hr => exact a142_); (case hp => exact a145_)
                       intro v206 w35 ho36 hb hg_ hnew_
                       clear hg_ hnew_
                       (first | rw [← Ny205.out] at ho36 | (simp only [Int.reduceToNat] at ho36; rw [← Ny205.out] at ho36))
                       have n0_ := Aside0.mk (Kd.R_elder' a95_ (Kd.R_base ho36) hb)
                       have n1_ := Aside0.mk (Kd.R_elder' a94_ (Kd.R_base ho36) hb)
                       have n2_ := Aside0.mk (Kd.R_elder' a93_ (Kd.R_base ho36) hb)
                       have n3_ := Aside0.mk (Kd.R_elder' a96_ (Kd.R_base ho36) hb)
                       have n4_ := Aside0.mk (Kd.R_lower (Kd.R_new' (Kd.R_new' (Kd.R_new' (Kd.R_new' ho36 (Kd.R_lt a95_)) (Kd.R_lt a94_)) (Kd.R_lt a93_)) (Kd.R_lt a96_)) (below_size a88_))
                       have n5_ := Aside0.mk (blk_below (g := gb194) a89_ hb)
                       have n6_ := Aside0.mk (blk_below (g := gb195) a90_ hb)
                       have n7_ := Aside0.mk (blk_below (g := gb196) a91_ hb)
                       have n8_ := Aside0.mk (below_step a88_ hb)
                       clear HO_196000 HO_196001 HO_196002 HO201 BK194 BK195 BK196 HB; have HO_196000 := n0_; have HO_196001 := n1_; have HO_196002 := n2_; have HO201 := n3_; have HO207 := n4_; have BK194 := n5_; have BK195 := n6_; have BK196 := n7_; have HB := n8_; clear n0_ n1_ n2_ n3_ n4_ n5_ n6_ n7_ n8_ hb ho36
                       refine hK.out _ _ ⟨(blk_cell BK195.out 0).trans rfl, (blk_cell BK195.out 1).trans rfl, (blk_cell BK195.out 2).trans rfl, (blk_cell BK196.out 0).trans rfl, (blk_cell BK196.out 1).trans rfl, (blk_cell BK196.out 2).trans rfl⟩ (fun hHeld => ?_)
                       clear hK K; refine norm_ (a' := ?_) ?_ ?_; rotate_left
                       ·show Act.put _ (some 37) _ = _
                        simp only [Act.put, List.setIfInBounds_toArray, List.set_cons_zero, List.set_cons_succ, i64_w, i32_w]
                        rfl
                       exact norm_ a92_ (hJ5_12 ((.slice Ao36 y199.length co36), v206) _ ⟨hHeld, a131_, a127_, a104_, a105_, a106_, a89_, a90_, a91_, a88_⟩)
                      ·refine Kd.R_lit_step (Kd.int .i16) _ 38 ?hg (N := 42) ?hd (xs := ([x8_19] : List Int)) (inner := [.int .i16 x8_19]) (ok := fun _ => True) (okp := fun _ => True) ?hr ?hp (fun _ hk => hk) trivial (Below.refl _ _) (Nat.le_refl _) (by simp) ?_; (case hd => rfl); (case hg => rfl); (case hr => exact a142_); (case hp => exact a144_)
                       intro v212 w35 ho36 hb hg_ hnew_
                       clear hg_ hnew_
                       (first | rw [← Ny211.out] at ho36 | (simp only [Int.reduceToNat] at ho36; rw [← Ny211.out] at ho36))
                       have n0_ := Aside0.mk (Kd.R_elder' a95_ (Kd.R_base ho36) hb)
                       have n1_ := Aside0.mk (Kd.R_elder' a94_ (Kd.R_base ho36) hb)
                       have n2_ := Aside0.mk (Kd.R_elder' a93_ (Kd.R_base ho36) hb)
                       have n3_ := Aside0.mk (Kd.R_elder' a96_ (Kd.R_base ho36) hb)
                       have n4_ := Aside0.mk (Kd.R_lower (Kd.R_new' (Kd.R_new' (Kd.R_new' (Kd.R_new' ho36 (Kd.R_lt a95_)) (Kd.R_lt a94_)) (Kd.R_lt a93_)) (Kd.R_lt a96_)) (below_size a88_))
                       have n5_ := Aside0.mk (blk_below (g := gb194) a89_ hb)
                       have n6_ := Aside0.mk (blk_below (g := gb195) a90_ hb)
                       have n7_ := Aside0.mk (blk_below (g := gb196) a91_ hb)
                       have n8_ := Aside0.mk (below_step a88_ hb)
                       clear HO_196000 HO_196001 HO_196002 HO201 BK194 BK195 BK196 HB; have HO_196000 := n0_; have HO_196001 := n1_; have HO_196002 := n2_; have HO201 := n3_; have HO213 := n4_; have BK194 := n5_; have BK195 := n6_; have BK196 := n7_; have HB := n8_; clear n0_ n1_ n2_ n3_ n4_ n5_ n6_ n7_ n8_ hb ho36
                       refine hK.out _ _ ⟨(blk_cell BK195.out 0).trans rfl, (blk_cell BK195.out 1).trans rfl, (blk_cell BK195.out 2).trans rfl, (blk_cell BK196.out 0).trans rfl, (blk_cell BK196.out 1).trans rfl, (blk_cell BK196.out 2).trans rfl⟩ (fun hHeld => ?_)
                       clear hK K; refine norm_ (a' := ?_) ?_ ?_; rotate_left
                       ·show Act.put _ (some 42) _ = _
                        simp only [Act.put, List.setIfInBounds_toArray, List.set_cons_zero, List.set_cons_succ, i64_w, i32_w]
                        rfl
                       exact norm_ a92_ (hJ5_17 ((.slice Ao36 y199.length co36), v212) _ ⟨hHeld, a131_, a128_, a104_, a105_, a106_, a89_, a90_, a91_, a88_⟩)
                    ·rintro ⟨v206, v212⟩ w36 ⟨hS_, h0_, h1_, h2_, h3_, h4_, h5_, h6_, h7_, h8_⟩
                     have n0_ : Aside0 (Kd.R (Kd.int .i16) 38 w36 w.heap.size (fun k_ => some k_ ≠ (v212 : Value).ownBlock ∧ nbk k_ Ao28 x196000_1.length co28 ∧ nbk k_ Ao29 x196001_1.length co29 ∧ nbk k_ Ao30 x196002_1.length co30) v206 y205) := ⟨h0_⟩
                     have n1_ : Aside0 (Kd.R (Kd.int .i16) 38 w36 w.heap.size (fun k_ => some k_ ≠ (v206 : Value).ownBlock ∧ nbk k_ Ao28 x196000_1.length co28 ∧ nbk k_ Ao29 x196001_1.length co29 ∧ nbk k_ Ao30 x196002_1.length co30) v212 y211) := ⟨h1_⟩
                     have n2_ : Aside0 (Kd.R (Kd.int .i16) 38 w36 w.heap.size (fun k_ => some k_ ≠ (v206 : Value).ownBlock ∧ some k_ ≠ (v212 : Value).ownBlock ∧ nbk k_ Ao29 x196001_1.length co29 ∧ nbk k_ Ao30 x196002_1.length co30) (.slice Ao28 x196000_1.length co28) x196000_1) := ⟨h2_⟩
                     have n3_ : Aside0 (Kd.R (Kd.int .i16) 38 w36 w.heap.size (fun k_ => some k_ ≠ (v206 : Value).ownBlock ∧ some k_ ≠ (v212 : Value).ownBlock ∧ nbk k_ Ao28 x196000_1.length co28 ∧ nbk k_ Ao30 x196002_1.length co30) (.slice Ao29 x196001_1.length co29) x196001_1) := ⟨h3_⟩
                     have n4_ : Aside0 (Kd.R (Kd.int .i16) 38 w36 w.heap.size (fun k_ => some k_ ≠ (v206 : Value).ownBlock ∧ some k_ ≠ (v212 : Value).ownBlock ∧ nbk k_ Ao28 x196000_1.length co28 ∧ nbk k_ Ao29 x196001_1.length co29) (.slice Ao30 x196002_1.length co30) x196002_1) := ⟨h4_⟩
                     have n5_ : Aside0 (w36.heap[gb194]? = some (.cells #[.slice none 0 0, .slice none 0 0, .slice none 0 0] 29 (0, 0))) := ⟨h5_⟩
                     have n6_ : Aside0 (w36.heap[gb195]? = some (.cells #[.slice Ao28 x196000_1.length co28, .slice Ao29 x196001_1.length co29, .slice Ao30 x196002_1.length co30] 29 (0, 0))) := ⟨h6_⟩
                     have n7_ : Aside0 (w36.heap[gb196]? = some (.cells #[.int .i16 x197000_8, .int .i16 x197001_8, .bool x197002_8] 118 (0, 0))) := ⟨h7_⟩
                     have n8_ : Aside0 (Below w.heap.size w w36) := ⟨h8_⟩
                     clear HO_196000 HO_196001 HO_196002 BK194 BK195 BK196 HB h0_ h1_ h2_ h3_ h4_ h5_ h6_ h7_ h8_; have HO207 := n0_; have HO213 := n1_; have HO_196000 := n2_; have HO_196001 := n3_; have HO_196002 := n4_; have BK194 := n5_; have BK195 := n6_; have BK196 := n7_; have HB := n8_; clear n0_ n1_ n2_ n3_ n4_ n5_ n6_ n7_ n8_
                     have hHeld : w36.cell? ⟨gb195, 0, none⟩ = some (.slice Ao28 x196000_1.length co28) ∧ w36.cell? ⟨gb195, 1, none⟩ = some (.slice Ao29 x196001_1.length co29) ∧ w36.cell? ⟨gb195, 2, none⟩ = some (.slice Ao30 x196002_1.length co30) ∧ w36.cell? ⟨gb196, 0, none⟩ = some (.int .i16 x197000_8) ∧ w36.cell? ⟨gb196, 1, none⟩ = some (.int .i16 x197001_8) ∧ w36.cell? ⟨gb196, 2, none⟩ = some (.bool x197002_8) := hS_
                     refine norm_ (a' := ?_) ?_ ?_; rotate_left
                     ·simp only [putAll, Act.put, List.setIfInBounds_toArray, List.set_cons_zero, List.set_cons_succ]
                      rfl
                     refine one_ (i := 5) (N := some 30) #[true, true, true, true, true, true, false, true, true, true, true, true, true, false, true, true, true, true, false, false, false, false, false, false, false] rfl rfl (one_of HT_.out (by kernel_rfl)) (by decide) (fun K hK => ?_)
                     refine Kd.R_lit_step (Kd.int .i16) _ 38 ?hg (N := 30) ?hd (xs := ([x197000_8] : List Int)) (inner := [.int .i16 x197000_8]) (ok := fun _ => True) (okp := fun _ => True) ?hr ?hp (fun _ hk => hk) trivial (Below.refl _ _) (Nat.le_refl _) (by simp) ?_; (case hd => rfl); (case hg => rfl); (case hr => exact a142_); (case hp => exact a146_)
                     intro v200 w37 ho38 hb hg_ hnew_
                     clear hg_ hnew_
                     (first | rw [← Ny199.out] at ho38 | (simp only [Int.reduceToNat] at ho38; rw [← Ny199.out] at ho38))
                     have n0_ := Aside0.mk (Kd.R_elder' a95_ (Kd.R_base ho38) hb)
                     have n1_ := Aside0.mk (Kd.R_elder' a94_ (Kd.R_base ho38) hb)
                     have n2_ := Aside0.mk (Kd.R_elder' a93_ (Kd.R_base ho38) hb)
                     have n3_ := Aside0.mk (Kd.R_elder' a97_ (Kd.R_base ho38) hb)
                     have n4_ := Aside0.mk (Kd.R_elder' a98_ (Kd.R_base ho38) hb)
                     have n5_ := Aside0.mk (Kd.R_lower (Kd.R_new' (Kd.R_new' (Kd.R_new' (Kd.R_new' (Kd.R_new' ho38 (Kd.R_lt a95_)) (Kd.R_lt a94_)) (Kd.R_lt a93_)) (Kd.R_lt a97_)) (Kd.R_lt a98_)) (below_size a88_))
                     have n6_ := Aside0.mk (blk_below (g := gb194) a89_ hb)
                     have n7_ := Aside0.mk (blk_below (g := gb195) a90_ hb)
                     have n8_ := Aside0.mk (blk_below (g := gb196) a91_ hb)
                     have n9_ := Aside0.mk (below_step a88_ hb)
                     clear HO_196000 HO_196001 HO_196002 HO207 HO213 BK194 BK195 BK196 HB; have HO_196000 := n0_; have HO_196001 := n1_; have HO_196002 := n2_; have HO207 := n3_; have HO213 := n4_; have HO201 := n5_; have BK194 := n6_; have BK195 := n7_; have BK196 := n8_; have HB := n9_; clear n0_ n1_ n2_ n3_ n4_ n5_ n6_ n7_ n8_ n9_ hb ho38
                     refine hK.out _ _ ⟨(blk_cell BK195.out 0).trans rfl, (blk_cell BK195.out 1).trans rfl, (blk_cell BK195.out 2).trans rfl, (blk_cell BK196.out 0).trans rfl, (blk_cell BK196.out 1).trans rfl, (blk_cell BK196.out 2).trans rfl⟩ (fun hHeld => ?_)
                     clear hK K; refine norm_ (a' := ?_) ?_ ?_; rotate_left
                     ·show Act.put _ (some 30) _ = _
                      simp only [Act.put, List.setIfInBounds_toArray, List.set_cons_zero, List.set_cons_succ, i64_w, i32_w]
                      rfl
                     exact norm_ a92_ (hJ5_12_17 (v200, v206, v212) _ ⟨hHeld, (by (with_reducible repeat (first | apply Kd.R_alloc | apply Kd.R_drewN | apply Kd.R_drew)); exact Kd.R_mono HO201.out (fun _ hk => ⟨hk.1.2, ⟨hk.2, ⟨hk.1.1.1.1.2, ⟨hk.1.1.1.2, hk.1.1.2⟩⟩⟩⟩)), (by (with_reducible repeat (first | apply Kd.R_alloc | apply Kd.R_drewN | apply Kd.R_drew)); exact Kd.R_mono HO207.out (fun _ hk => ⟨hk.2, ⟨hk.1.1, ⟨hk.1.2.1, ⟨hk.1.2.2.1, hk.1.2.2.2⟩⟩⟩⟩)), (by (with_reducible repeat (first | apply Kd.R_alloc | apply Kd.R_drewN | apply Kd.R_drew)); exact Kd.R_mono HO213.out (fun _ hk => ⟨hk.2, ⟨hk.1.1, ⟨hk.1.2.1, ⟨hk.1.2.2.1, hk.1.2.2.2⟩⟩⟩⟩)), (by (with_reducible repeat (first | apply Kd.R_alloc | apply Kd.R_drewN | apply Kd.R_drew)); exact Kd.R_mono HO_196000.out (fun _ hk => ⟨hk.2, ⟨hk.1.1, ⟨hk.1.2.1, ⟨hk.1.2.2.1, hk.1.2.2.2⟩⟩⟩⟩)), (by (with_reducible repeat (first | apply Kd.R_alloc | apply Kd.R_drewN | apply Kd.R_drew)); exact Kd.R_mono HO_196001.out (fun _ hk => ⟨hk.2, ⟨hk.1.1, ⟨hk.1.2.1, ⟨hk.1.2.2.1, hk.1.2.2.2⟩⟩⟩⟩)), (by (with_reducible repeat (first | apply Kd.R_alloc | apply Kd.R_drewN | apply Kd.R_drew)); exact Kd.R_mono HO_196002.out (fun _ hk => ⟨hk.2, ⟨hk.1.1, ⟨hk.1.2.1, ⟨hk.1.2.2.1, hk.1.2.2.2⟩⟩⟩⟩)), a89_, a90_, a91_, a88_⟩)
                   ·rintro ⟨v200, v212⟩ w36 ⟨hS_, h0_, h1_, h2_, h3_, h4_, h5_, h6_, h7_, h8_⟩
                    have n0_ : Aside0 (Kd.R (Kd.int .i16) 38 w36 w.heap.size (fun k_ => some k_ ≠ (v212 : Value).ownBlock ∧ nbk k_ Ao28 x196000_1.length co28 ∧ nbk k_ Ao29 x196001_1.length co29 ∧ nbk k_ Ao30 x196002_1.length co30) v200 y199) := ⟨h0_⟩
                    have n1_ : Aside0 (Kd.R (Kd.int .i16) 38 w36 w.heap.size (fun k_ => some k_ ≠ (v200 : Value).ownBlock ∧ nbk k_ Ao28 x196000_1.length co28 ∧ nbk k_ Ao29 x196001_1.length co29 ∧ nbk k_ Ao30 x196002_1.length co30) v212 y211) := ⟨h1_⟩
                    have n2_ : Aside0 (Kd.R (Kd.int .i16) 38 w36 w.heap.size (fun k_ => some k_ ≠ (v200 : Value).ownBlock ∧ some k_ ≠ (v212 : Value).ownBlock ∧ nbk k_ Ao29 x196001_1.length co29 ∧ nbk k_ Ao30 x196002_1.length co30) (.slice Ao28 x196000_1.length co28) x196000_1) := ⟨h2_⟩
                    have n3_ : Aside0 (Kd.R (Kd.int .i16) 38 w36 w.heap.size (fun k_ => some k_ ≠ (v200 : Value).ownBlock ∧ some k_ ≠ (v212 : Value).ownBlock ∧ nbk k_ Ao28 x196000_1.length co28 ∧ nbk k_ Ao30 x196002_1.length co30) (.slice Ao29 x196001_1.length co29) x196001_1) := ⟨h3_⟩
                    have n4_ : Aside0 (Kd.R (Kd.int .i16) 38 w36 w.heap.size (fun k_ => some k_ ≠ (v200 : Value).ownBlock ∧ some k_ ≠ (v212 : Value).ownBlock ∧ nbk k_ Ao28 x196000_1.length co28 ∧ nbk k_ Ao29 x196001_1.length co29) (.slice Ao30 x196002_1.length co30) x196002_1) := ⟨h4_⟩
                    have n5_ : Aside0 (w36.heap[gb194]? = some (.cells #[.slice none 0 0, .slice none 0 0, .slice none 0 0] 29 (0, 0))) := ⟨h5_⟩
                    have n6_ : Aside0 (w36.heap[gb195]? = some (.cells #[.slice Ao28 x196000_1.length co28, .slice Ao29 x196001_1.length co29, .slice Ao30 x196002_1.length co30] 29 (0, 0))) := ⟨h6_⟩
                    have n7_ : Aside0 (w36.heap[gb196]? = some (.cells #[.int .i16 x197000_8, .int .i16 x197001_8, .bool x197002_8] 118 (0, 0))) := ⟨h7_⟩
                    have n8_ : Aside0 (Below w.heap.size w w36) := ⟨h8_⟩
                    clear HO_196000 HO_196001 HO_196002 BK194 BK195 BK196 HB h0_ h1_ h2_ h3_ h4_ h5_ h6_ h7_ h8_; have HO201 := n0_; have HO213 := n1_; have HO_196000 := n2_; have HO_196001 := n3_; have HO_196002 := n4_; have BK194 := n5_; have BK195 := n6_; have BK196 := n7_; have HB := n8_; clear n0_ n1_ n2_ n3_ n4_ n5_ n6_ n7_ n8_
                    have hHeld : w36.cell? ⟨gb195, 0, none⟩ = some (.slice Ao28 x196000_1.length co28) ∧ w36.cell? ⟨gb195, 1, none⟩ = some (.slice Ao29 x196001_1.length co29) ∧ w36.cell? ⟨gb195, 2, none⟩ = some (.slice Ao30 x196002_1.length co30) ∧ w36.cell? ⟨gb196, 0, none⟩ = some (.int .i16 x197000_8) ∧ w36.cell? ⟨gb196, 1, none⟩ = some (.int .i16 x197001_8) ∧ w36.cell? ⟨gb196, 2, none⟩ = some (.bool x197002_8) := hS_
                    obtain ⟨Ao38, co38, eo38⟩ := Kd.R_slice HO201.out
                    (first | subst eo38 | (injection eo38 with f1_ f2_ f3_; have f4_ := f1_.symm; have f5_ := f3_.symm; clear f1_ f2_ f3_; subst f4_; subst f5_))
                    refine norm_ (a' := ?_) ?_ ?_; rotate_left
                    ·simp only [putAll, Act.put, List.setIfInBounds_toArray, List.set_cons_zero, List.set_cons_succ]
                     rfl
                    refine two_ (i := 6) (j := 12) (Ni := some 31) (Nj := some 37) #[true, true, true, true, true, true, true, true, true, true, true, true, false, false, true, true, true, true, false, false, false, false, false, false, false] #[true, true, true, true, true, true, false, true, true, true, true, true, true, false, true, true, true, true, false, false, false, false, false, false, false] rfl rfl rfl rfl (two_of HT_.out (by kernel_rfl)) (by decide) (by decide) (fun K hK => ?_) (fun K hK => ?_)
                    ·refine Kd.R_append_rows_step (Kd.int .i16) (w0 := w) w.heap.size (by rfl) (.tmp 26) (.tmp 30) 27 38 (.int .i16 0) 2 rfl Try.underlying27 info38 rfl (by decide) (by omega) (.slice Ao28 x196000_1.length co28) x196000_1 y199 _ _ _ (fun k_ => nbk k_ Ao29 x196001_1.length co29 ∧ nbk k_ Ao30 x196002_1.length co30 ∧ nbk k_ Ao38 y199.length co38 ∧ some k_ ≠ (v212 : Value).ownBlock) (fun _ => False) rfl rfl ?aO ?aR (fun _ _ h => h) (fun _ h => h.elim) ?aF ?aB ?aS ?aL ?_
                     (case aR => exact a143_); (case aB => exact a88_)
                     (case aF => exact (fun k_ hk => ⟨Kd.fresh' (Kd.R_lt a94_) k_ hk, Kd.fresh' (Kd.R_lt a93_) k_ hk, Kd.fresh' (Kd.R_lt a96_) k_ hk, Kd.fresh' (Kd.R_lt a98_) k_ hk⟩))
                     (case aO => exact a119_)
                     (case aS => exact (below_size a88_))
                     (case aL => have := LMc25.out; omega)
                     intro v203 w37 ho hb hg hat
                     rw [← Ny202.out] at ho
                     have n0_ := Aside0.mk (Kd.R_after (ok := (fun k_ => nbk k_ Ao30 x196002_1.length co30 ∧ nbk k_ Ao38 y199.length co38 ∧ some k_ ≠ (v212 : Value).ownBlock)) a120_ hg hat)
                     have n1_ := Aside0.mk (Kd.R_after (ok := (fun k_ => nbk k_ Ao29 x196001_1.length co29 ∧ nbk k_ Ao38 y199.length co38 ∧ some k_ ≠ (v212 : Value).ownBlock)) a121_ hg hat)
                     have n2_ := Aside0.mk (blk_grown (g := gb194) (o := .cells #[.slice none 0 0, .slice none 0 0, .slice none 0 0] 29 (0, 0)) a89_ hg (Kd.R_ne HO_196000.out BK194.out (by decide)))
                     have n3_ := Aside0.mk (blk_grown (g := gb195) (o := .cells #[.slice Ao28 x196000_1.length co28, .slice Ao29 x196001_1.length co29, .slice Ao30 x196002_1.length co30] 29 (0, 0)) a90_ hg (Kd.R_ne HO_196000.out BK195.out (by decide)))
                     have n4_ := Aside0.mk (blk_grown (g := gb196) (o := .cells #[.int .i16 x197000_8, .int .i16 x197001_8, .bool x197002_8] 118 (0, 0)) a91_ hg (Kd.R_ne HO_196000.out BK196.out (by decide)))
                     have n5_ := Aside0.mk (Kd.R_after (ok := (fun k_ => nbk k_ Ao29 x196001_1.length co29 ∧ nbk k_ Ao30 x196002_1.length co30 ∧ some k_ ≠ (v212 : Value).ownBlock)) a132_ hg hat)
                     have n6_ := Aside0.mk (Kd.R_after (ok := (fun k_ => nbk k_ Ao29 x196001_1.length co29 ∧ nbk k_ Ao30 x196002_1.length co30 ∧ nbk k_ Ao38 y199.length co38)) (by (with_reducible repeat (first | apply Kd.R_alloc | apply Kd.R_drewN | apply Kd.R_drew)); exact Kd.R_mono HO213.out (fun _ hk => ⟨⟨hk.2.2.1, ⟨hk.2.2.2, hk.1⟩⟩, hk.2.1⟩)) hg hat)
                     have n7_ := Aside0.mk (hb)
                     have n8_ := Aside0.mk (ho)
                     clear HO_196001 HO_196002 BK194 BK195 BK196 HO201 HO213 HB HO_196000; have HO_196001 := n0_; have HO_196002 := n1_; have BK194 := n2_; have BK195 := n3_; have BK196 := n4_; have HO201 := n5_; have HO213 := n6_; have HB := n7_; have HO204 := n8_; clear n0_ n1_ n2_ n3_ n4_ n5_ n6_ n7_ n8_ ho hb hg hat
                     refine hK.out _ _ ⟨(blk_cell BK195.out 0).trans rfl, (blk_cell BK195.out 1).trans rfl, (blk_cell BK195.out 2).trans rfl, (blk_cell BK196.out 0).trans rfl, (blk_cell BK196.out 1).trans rfl, (blk_cell BK196.out 2).trans rfl⟩ (fun hHeld => ?_)
                     clear hK K; refine norm_ (a' := ?_) ?_ ?_; rotate_left
                     ·show Act.put _ (some 31) _ = _
                      simp only [Act.put, List.setIfInBounds_toArray, List.set_cons_zero, List.set_cons_succ, i64_w, i32_w]
                      rfl
                     refine pure_ (i := 19) (N := some 44) (v := ?_) (a' := ?_) #[true, true, true, true, true, true, true, true, true, true, true, true, false, false, true, true, true, true, false, true, false, false, false, false, false] rfl rfl (any_of HT_.out (by kernel_rfl)) (fun _ _ _ h => h) (Or.inl ⟨by rfl, ?_⟩) ?_ ?_
                     rotate_left
                     ·intro w'
                      go_simp; with_reducible rfl
                     rotate_left
                     ·simp only [Act.put, List.setIfInBounds_toArray, List.set_cons_zero, List.set_cons_succ, i64_w, i32_w]
                      rfl
                     exact norm_ a92_ (hJ5_6_17 (.slice Ao38 y199.length co38, v203, v212) _ ⟨hHeld, a133_, a134_, (by (with_reducible repeat (first | apply Kd.R_alloc | apply Kd.R_drewN | apply Kd.R_drew)); exact Kd.R_mono HO213.out (fun _ hk => ⟨hk.1.2.2, ⟨hk.2, ⟨hk.1.1, hk.1.2.1⟩⟩⟩)), a122_, a123_, a89_, a90_, a91_, a88_⟩)
                    ·refine Kd.R_lit_step (Kd.int .i16) _ 38 ?hg (N := 37) ?hd (xs := ([x197001_8] : List Int)) (inner := [.int .i16 x197001_8]) (ok := fun _ => True) (okp := fun _ => True) ?hr ?hp (fun _ hk => hk) trivial (Below.refl _ _) (Nat.le_refl _) (by simp) ?_; (case hd => rfl); (case hg => rfl); (case hr => exact a142_); (case hp => exact a145_)
                     intro v206 w37 ho38 hb hg_ hnew_
                     clear hg_ hnew_
                     (first | rw [← Ny205.out] at ho38 | (simp only [Int.reduceToNat] at ho38; rw [← Ny205.out] at ho38))
                     have n0_ := Aside0.mk (Kd.R_elder' a95_ (Kd.R_base ho38) hb)
                     have n1_ := Aside0.mk (Kd.R_elder' a94_ (Kd.R_base ho38) hb)
                     have n2_ := Aside0.mk (Kd.R_elder' a93_ (Kd.R_base ho38) hb)
                     have n3_ := Aside0.mk (Kd.R_elder' a96_ (Kd.R_base ho38) hb)
                     have n4_ := Aside0.mk (Kd.R_elder' a98_ (Kd.R_base ho38) hb)
                     have n5_ := Aside0.mk (Kd.R_lower (Kd.R_new' (Kd.R_new' (Kd.R_new' (Kd.R_new' (Kd.R_new' ho38 (Kd.R_lt a95_)) (Kd.R_lt a94_)) (Kd.R_lt a93_)) (Kd.R_lt a96_)) (Kd.R_lt a98_)) (below_size a88_))
                     have n6_ := Aside0.mk (blk_below (g := gb194) a89_ hb)
                     have n7_ := Aside0.mk (blk_below (g := gb195) a90_ hb)
                     have n8_ := Aside0.mk (blk_below (g := gb196) a91_ hb)
                     have n9_ := Aside0.mk (below_step a88_ hb)
                     clear HO_196000 HO_196001 HO_196002 HO201 HO213 BK194 BK195 BK196 HB; have HO_196000 := n0_; have HO_196001 := n1_; have HO_196002 := n2_; have HO201 := n3_; have HO213 := n4_; have HO207 := n5_; have BK194 := n6_; have BK195 := n7_; have BK196 := n8_; have HB := n9_; clear n0_ n1_ n2_ n3_ n4_ n5_ n6_ n7_ n8_ n9_ hb ho38
                     refine hK.out _ _ ⟨(blk_cell BK195.out 0).trans rfl, (blk_cell BK195.out 1).trans rfl, (blk_cell BK195.out 2).trans rfl, (blk_cell BK196.out 0).trans rfl, (blk_cell BK196.out 1).trans rfl, (blk_cell BK196.out 2).trans rfl⟩ (fun hHeld => ?_)
                     clear hK K; refine norm_ (a' := ?_) ?_ ?_; rotate_left
                     ·show Act.put _ (some 37) _ = _
                      simp only [Act.put, List.setIfInBounds_toArray, List.set_cons_zero, List.set_cons_succ, i64_w, i32_w]
                      rfl
                     exact norm_ a92_ (hJ5_12_17 ((.slice Ao38 y199.length co38), v206, v212) _ ⟨hHeld, (by (with_reducible repeat (first | apply Kd.R_alloc | apply Kd.R_drewN | apply Kd.R_drew)); exact Kd.R_mono HO201.out (fun _ hk => ⟨hk.2, ⟨hk.1.1, ⟨hk.1.2.1, ⟨hk.1.2.2.1, hk.1.2.2.2⟩⟩⟩⟩)), (by (with_reducible repeat (first | apply Kd.R_alloc | apply Kd.R_drewN | apply Kd.R_drew)); exact Kd.R_mono HO207.out (fun _ hk => ⟨hk.1.2, ⟨hk.2, ⟨hk.1.1.1.1.2, ⟨hk.1.1.1.2, hk.1.1.2⟩⟩⟩⟩)), (by (with_reducible repeat (first | apply Kd.R_alloc | apply Kd.R_drewN | apply Kd.R_drew)); exact Kd.R_mono HO213.out (fun _ hk => ⟨hk.1.1, ⟨hk.2, ⟨hk.1.2.1, ⟨hk.1.2.2.1, hk.1.2.2.2⟩⟩⟩⟩)), (by (with_reducible repeat (first | apply Kd.R_alloc | apply Kd.R_drewN | apply Kd.R_drew)); exact Kd.R_mono HO_196000.out (fun _ hk => ⟨hk.1.1, ⟨hk.2, ⟨hk.1.2.1, ⟨hk.1.2.2.1, hk.1.2.2.2⟩⟩⟩⟩)), (by (with_reducible repeat (first | apply Kd.R_alloc | apply Kd.R_drewN | apply Kd.R_drew)); exact Kd.R_mono HO_196001.out (fun _ hk => ⟨hk.1.1, ⟨hk.2, ⟨hk.1.2.1, ⟨hk.1.2.2.1, hk.1.2.2.2⟩⟩⟩⟩)), (by (with_reducible repeat (first | apply Kd.R_alloc | apply Kd.R_drewN | apply Kd.R_drew)); exact Kd.R_mono HO_196002.out (fun _ hk => ⟨hk.1.1, ⟨hk.2, ⟨hk.1.2.1, ⟨hk.1.2.2.1, hk.1.2.2.2⟩⟩⟩⟩)), a89_, a90_, a91_, a88_⟩)
                  ·rintro ⟨v200, v206⟩ w36 ⟨hS_, h0_, h1_, h2_, h3_, h4_, h5_, h6_, h7_, h8_⟩
                   have n0_ : Aside0 (Kd.R (Kd.int .i16) 38 w36 w.heap.size (fun k_ => some k_ ≠ (v206 : Value).ownBlock ∧ nbk k_ Ao28 x196000_1.length co28 ∧ nbk k_ Ao29 x196001_1.length co29 ∧ nbk k_ Ao30 x196002_1.length co30) v200 y199) := ⟨h0_⟩
                   have n1_ : Aside0 (Kd.R (Kd.int .i16) 38 w36 w.heap.size (fun k_ => some k_ ≠ (v200 : Value).ownBlock ∧ nbk k_ Ao28 x196000_1.length co28 ∧ nbk k_ Ao29 x196001_1.length co29 ∧ nbk k_ Ao30 x196002_1.length co30) v206 y205) := ⟨h1_⟩
                   have n2_ : Aside0 (Kd.R (Kd.int .i16) 38 w36 w.heap.size (fun k_ => some k_ ≠ (v200 : Value).ownBlock ∧ some k_ ≠ (v206 : Value).ownBlock ∧ nbk k_ Ao29 x196001_1.length co29 ∧ nbk k_ Ao30 x196002_1.length co30) (.slice Ao28 x196000_1.length co28) x196000_1) := ⟨h2_⟩
                   have n3_ : Aside0 (Kd.R (Kd.int .i16) 38 w36 w.heap.size (fun k_ => some k_ ≠ (v200 : Value).ownBlock ∧ some k_ ≠ (v206 : Value).ownBlock ∧ nbk k_ Ao28 x196000_1.length co28 ∧ nbk k_ Ao30 x196002_1.length co30) (.slice Ao29 x196001_1.length co29) x196001_1) := ⟨h3_⟩
                   have n4_ : Aside0 (Kd.R (Kd.int .i16) 38 w36 w.heap.size (fun k_ => some k_ ≠ (v200 : Value).ownBlock ∧ some k_ ≠ (v206 : Value).ownBlock ∧ nbk k_ Ao28 x196000_1.length co28 ∧ nbk k_ Ao29 x196001_1.length co29) (.slice Ao30 x196002_1.length co30) x196002_1) := ⟨h4_⟩
                   have n5_ : Aside0 (w36.heap[gb194]? = some (.cells #[.slice none 0 0, .slice none 0 0, .slice none 0 0] 29 (0, 0))) := ⟨h5_⟩
                   have n6_ : Aside0 (w36.heap[gb195]? = some (.cells #[.slice Ao28 x196000_1.length co28, .slice Ao29 x196001_1.length co29, .slice Ao30 x196002_1.length co30] 29 (0, 0))) := ⟨h6_⟩
                   have n7_ : Aside0 (w36.heap[gb196]? = some (.cells #[.int .i16 x197000_8, .int .i16 x197001_8, .bool x197002_8] 118 (0, 0))) := ⟨h7_⟩
                   have n8_ : Aside0 (Below w.heap.size w w36) := ⟨h8_⟩
                   clear HO_196000 HO_196001 HO_196002 BK194 BK195 BK196 HB h0_ h1_ h2_ h3_ h4_ h5_ h6_ h7_ h8_; have HO201 := n0_; have HO207 := n1_; have HO_196000 := n2_; have HO_196001 := n3_; have HO_196002 := n4_; have BK194 := n5_; have BK195 := n6_; have BK196 := n7_; have HB := n8_; clear n0_ n1_ n2_ n3_ n4_ n5_ n6_ n7_ n8_
                   have hHeld : w36.cell? ⟨gb195, 0, none⟩ = some (.slice Ao28 x196000_1.length co28) ∧ w36.cell? ⟨gb195, 1, none⟩ = some (.slice Ao29 x196001_1.length co29) ∧ w36.cell? ⟨gb195, 2, none⟩ = some (.slice Ao30 x196002_1.length co30) ∧ w36.cell? ⟨gb196, 0, none⟩ = some (.int .i16 x197000_8) ∧ w36.cell? ⟨gb196, 1, none⟩ = some (.int .i16 x197001_8) ∧ w36.cell? ⟨gb196, 2, none⟩ = some (.bool x197002_8) := hS_
                   obtain ⟨Ao38, co38, eo38⟩ := Kd.R_slice HO201.out
                   (first | subst eo38 | (injection eo38 with f1_ f2_ f3_; have f4_ := f1_.symm; have f5_ := f3_.symm; clear f1_ f2_ f3_; subst f4_; subst f5_))
                   refine norm_ (a' := ?_) ?_ ?_; rotate_left
                   ·simp only [putAll, Act.put, List.setIfInBounds_toArray, List.set_cons_zero, List.set_cons_succ]
                    rfl
                   refine two_ (i := 6) (j := 17) (Ni := some 31) (Nj := some 42) #[true, true, true, true, true, true, true, true, true, true, true, true, true, false, true, true, true, false, false, false, false, false, false, false, false] #[true, true, true, true, true, true, false, true, true, true, true, true, true, false, true, true, true, true, false, false, false, false, false, false, false] rfl rfl rfl rfl (two_of HT_.out (by kernel_rfl)) (by decide) (by decide) (fun K hK => ?_) (fun K hK => ?_)
                   ·refine Kd.R_append_rows_step (Kd.int .i16) (w0 := w) w.heap.size (by rfl) (.tmp 26) (.tmp 30) 27 38 (.int .i16 0) 2 rfl Try.underlying27 info38 rfl (by decide) (by omega) (.slice Ao28 x196000_1.length co28) x196000_1 y199 _ _ _ (fun k_ => nbk k_ Ao29 x196001_1.length co29 ∧ nbk k_ Ao30 x196002_1.length co30 ∧ nbk k_ Ao38 y199.length co38 ∧ some k_ ≠ (v206 : Value).ownBlock) (fun _ => False) rfl rfl ?aO ?aR (fun _ _ h => h) (fun _ h => h.elim) ?aF ?aB ?aS ?aL ?_
                    (case aR => exact a143_); (case aB => exact a88_)
                    (case aF => exact (fun k_ hk => ⟨Kd.fresh' (Kd.R_lt a94_) k_ hk, Kd.fresh' (Kd.R_lt a93_) k_ hk, Kd.fresh' (Kd.R_lt a96_) k_ hk, Kd.fresh' (Kd.R_lt a97_) k_ hk⟩))
                    (case aO => exact a119_)
                    (case aS => exact (below_size a88_))
                    (case aL => have := LMc25.out; omega)
                    intro v203 w37 ho hb hg hat
                    rw [← Ny202.out] at ho
                    have n0_ := Aside0.mk (Kd.R_after (ok := (fun k_ => nbk k_ Ao30 x196002_1.length co30 ∧ nbk k_ Ao38 y199.length co38 ∧ some k_ ≠ (v206 : Value).ownBlock)) a120_ hg hat)
                    have n1_ := Aside0.mk (Kd.R_after (ok := (fun k_ => nbk k_ Ao29 x196001_1.length co29 ∧ nbk k_ Ao38 y199.length co38 ∧ some k_ ≠ (v206 : Value).ownBlock)) a121_ hg hat)
                    have n2_ := Aside0.mk (blk_grown (g := gb194) (o := .cells #[.slice none 0 0, .slice none 0 0, .slice none 0 0] 29 (0, 0)) a89_ hg (Kd.R_ne HO_196000.out BK194.out (by decide)))
                    have n3_ := Aside0.mk (blk_grown (g := gb195) (o := .cells #[.slice Ao28 x196000_1.length co28, .slice Ao29 x196001_1.length co29, .slice Ao30 x196002_1.length co30] 29 (0, 0)) a90_ hg (Kd.R_ne HO_196000.out BK195.out (by decide)))
                    have n4_ := Aside0.mk (blk_grown (g := gb196) (o := .cells #[.int .i16 x197000_8, .int .i16 x197001_8, .bool x197002_8] 118 (0, 0)) a91_ hg (Kd.R_ne HO_196000.out BK196.out (by decide)))
                    have n5_ := Aside0.mk (Kd.R_after (ok := (fun k_ => nbk k_ Ao29 x196001_1.length co29 ∧ nbk k_ Ao30 x196002_1.length co30 ∧ some k_ ≠ (v206 : Value).ownBlock)) a132_ hg hat)
                    have n6_ := Aside0.mk (Kd.R_after (ok := (fun k_ => nbk k_ Ao29 x196001_1.length co29 ∧ nbk k_ Ao30 x196002_1.length co30 ∧ nbk k_ Ao38 y199.length co38)) (by (with_reducible repeat (first | apply Kd.R_alloc | apply Kd.R_drewN | apply Kd.R_drew)); exact Kd.R_mono HO207.out (fun _ hk => ⟨⟨hk.2.2.1, ⟨hk.2.2.2, hk.1⟩⟩, hk.2.1⟩)) hg hat)
                    have n7_ := Aside0.mk (hb)
                    have n8_ := Aside0.mk (ho)
                    clear HO_196001 HO_196002 BK194 BK195 BK196 HO201 HO207 HB HO_196000; have HO_196001 := n0_; have HO_196002 := n1_; have BK194 := n2_; have BK195 := n3_; have BK196 := n4_; have HO201 := n5_; have HO207 := n6_; have HB := n7_; have HO204 := n8_; clear n0_ n1_ n2_ n3_ n4_ n5_ n6_ n7_ n8_ ho hb hg hat
                    refine hK.out _ _ ⟨(blk_cell BK195.out 0).trans rfl, (blk_cell BK195.out 1).trans rfl, (blk_cell BK195.out 2).trans rfl, (blk_cell BK196.out 0).trans rfl, (blk_cell BK196.out 1).trans rfl, (blk_cell BK196.out 2).trans rfl⟩ (fun hHeld => ?_)
                    clear hK K; refine norm_ (a' := ?_) ?_ ?_; rotate_left
                    ·show Act.put _ (some 31) _ = _
                     simp only [Act.put, List.setIfInBounds_toArray, List.set_cons_zero, List.set_cons_succ, i64_w, i32_w]
                     rfl
                    refine pure_ (i := 19) (N := some 44) (v := ?_) (a' := ?_) #[true, true, true, true, true, true, true, true, true, true, true, true, true, false, true, true, true, false, false, true, false, false, false, false, false] rfl rfl (any_of HT_.out (by kernel_rfl)) (fun _ _ _ h => h) (Or.inl ⟨by rfl, ?_⟩) ?_ ?_
                    rotate_left
                    ·intro w'
                     go_simp; with_reducible rfl
                    rotate_left
                    ·simp only [Act.put, List.setIfInBounds_toArray, List.set_cons_zero, List.set_cons_succ, i64_w, i32_w]
                     rfl
                    exact norm_ a92_ (hJ5_6_12 (.slice Ao38 y199.length co38, v203, v206) _ ⟨hHeld, a133_, a134_, (by (with_reducible repeat (first | apply Kd.R_alloc | apply Kd.R_drewN | apply Kd.R_drew)); exact Kd.R_mono HO207.out (fun _ hk => ⟨hk.1.2.2, ⟨hk.2, ⟨hk.1.1, hk.1.2.1⟩⟩⟩)), a122_, a123_, a89_, a90_, a91_, a88_⟩)
                   ·refine Kd.R_lit_step (Kd.int .i16) _ 38 ?hg (N := 42) ?hd (xs := ([x8_19] : List Int)) (inner := [.int .i16 x8_19]) (ok := fun _ => True) (okp := fun _ => True) ?hr ?hp (fun _ hk => hk) trivial (Below.refl _ _) (Nat.le_refl _) (by simp) ?_; (case hd => rfl); (case hg => rfl); (case hr => exact a142_); (case hp => exact a144_)
                    intro v212 w37 ho38 hb hg_ hnew_
                    clear hg_ hnew_
                    (first | rw [← Ny211.out] at ho38 | (simp only [Int.reduceToNat] at ho38; rw [← Ny211.out] at ho38))
                    have n0_ := Aside0.mk (Kd.R_elder' a95_ (Kd.R_base ho38) hb)
                    have n1_ := Aside0.mk (Kd.R_elder' a94_ (Kd.R_base ho38) hb)
                    have n2_ := Aside0.mk (Kd.R_elder' a93_ (Kd.R_base ho38) hb)
                    have n3_ := Aside0.mk (Kd.R_elder' a96_ (Kd.R_base ho38) hb)
                    have n4_ := Aside0.mk (Kd.R_elder' a97_ (Kd.R_base ho38) hb)
                    have n5_ := Aside0.mk (Kd.R_lower (Kd.R_new' (Kd.R_new' (Kd.R_new' (Kd.R_new' (Kd.R_new' ho38 (Kd.R_lt a95_)) (Kd.R_lt a94_)) (Kd.R_lt a93_)) (Kd.R_lt a96_)) (Kd.R_lt a97_)) (below_size a88_))
                    have n6_ := Aside0.mk (blk_below (g := gb194) a89_ hb)
                    have n7_ := Aside0.mk (blk_below (g := gb195) a90_ hb)
                    have n8_ := Aside0.mk (blk_below (g := gb196) a91_ hb)
                    have n9_ := Aside0.mk (below_step a88_ hb)
                    clear HO_196000 HO_196001 HO_196002 HO201 HO207 BK194 BK195 BK196 HB; have HO_196000 := n0_; have HO_196001 := n1_; have HO_196002 := n2_; have HO201 := n3_; have HO207 := n4_; have HO213 := n5_; have BK194 := n6_; have BK195 := n7_; have BK196 := n8_; have HB := n9_; clear n0_ n1_ n2_ n3_ n4_ n5_ n6_ n7_ n8_ n9_ hb ho38
                    refine hK.out _ _ ⟨(blk_cell BK195.out 0).trans rfl, (blk_cell BK195.out 1).trans rfl, (blk_cell BK195.out 2).trans rfl, (blk_cell BK196.out 0).trans rfl, (blk_cell BK196.out 1).trans rfl, (blk_cell BK196.out 2).trans rfl⟩ (fun hHeld => ?_)
                    clear hK K; refine norm_ (a' := ?_) ?_ ?_; rotate_left
                    ·show Act.put _ (some 42) _ = _
                     simp only [Act.put, List.setIfInBounds_toArray, List.set_cons_zero, List.set_cons_succ, i64_w, i32_w]
                     rfl
                    exact norm_ a92_ (hJ5_12_17 ((.slice Ao38 y199.length co38), v206, v212) _ ⟨hHeld, a115_, (by (with_reducible repeat (first | apply Kd.R_alloc | apply Kd.R_drewN | apply Kd.R_drew)); exact Kd.R_mono HO207.out (fun _ hk => ⟨hk.1.1, ⟨hk.2, ⟨hk.1.2.1, ⟨hk.1.2.2.1, hk.1.2.2.2⟩⟩⟩⟩)), (by (with_reducible repeat (first | apply Kd.R_alloc | apply Kd.R_drewN | apply Kd.R_drew)); exact Kd.R_mono HO213.out (fun _ hk => ⟨hk.1.2, ⟨hk.2, ⟨hk.1.1.1.1.2, ⟨hk.1.1.1.2, hk.1.1.2⟩⟩⟩⟩)), (by (with_reducible repeat (first | apply Kd.R_alloc | apply Kd.R_drewN | apply Kd.R_drew)); exact Kd.R_mono HO_196000.out (fun _ hk => ⟨hk.1.1, ⟨hk.1.2.1, ⟨hk.2, ⟨hk.1.2.2.1, hk.1.2.2.2⟩⟩⟩⟩)), a112_, a113_, a89_, a90_, a91_, a88_⟩)
                 ·rintro ⟨v200, v203⟩ w36 ⟨hS_, h0_, h1_, h2_, h3_, h4_, h5_, h6_, h7_⟩
                  have n0_ : Aside0 (Kd.R (Kd.int .i16) 38 w36 w.heap.size (fun k_ => some k_ ≠ (v203 : Value).ownBlock ∧ nbk k_ Ao29 x196001_1.length co29 ∧ nbk k_ Ao30 x196002_1.length co30) v200 y199) := ⟨h0_⟩
                  have n1_ : Aside0 (Kd.R (Kd.int .i16) 38 w36 w.heap.size (fun k_ => some k_ ≠ (v200 : Value).ownBlock ∧ nbk k_ Ao29 x196001_1.length co29 ∧ nbk k_ Ao30 x196002_1.length co30) v203 y202) := ⟨h1_⟩
                  have n2_ : Aside0 (Kd.R (Kd.int .i16) 38 w36 w.heap.size (fun k_ => some k_ ≠ (v200 : Value).ownBlock ∧ some k_ ≠ (v203 : Value).ownBlock ∧ nbk k_ Ao30 x196002_1.length co30) (.slice Ao29 x196001_1.length co29) x196001_1) := ⟨h2_⟩
                  have n3_ : Aside0 (Kd.R (Kd.int .i16) 38 w36 w.heap.size (fun k_ => some k_ ≠ (v200 : Value).ownBlock ∧ some k_ ≠ (v203 : Value).ownBlock ∧ nbk k_ Ao29 x196001_1.length co29) (.slice Ao30 x196002_1.length co30) x196002_1) := ⟨h3_⟩
                  have n4_ : Aside0 (w36.heap[gb194]? = some (.cells #[.slice none 0 0, .slice none 0 0, .slice none 0 0] 29 (0, 0))) := ⟨h4_⟩
                  have n5_ : Aside0 (w36.heap[gb195]? = some (.cells #[.slice Ao28 x196000_1.length co28, .slice Ao29 x196001_1.length co29, .slice Ao30 x196002_1.length co30] 29 (0, 0))) := ⟨h5_⟩
                  have n6_ : Aside0 (w36.heap[gb196]? = some (.cells #[.int .i16 x197000_8, .int .i16 x197001_8, .bool x197002_8] 118 (0, 0))) := ⟨h6_⟩
                  have n7_ : Aside0 (Below w.heap.size w w36) := ⟨h7_⟩
                  clear HO_196000 HO_196001 HO_196002 BK194 BK195 BK196 HB h0_ h1_ h2_ h3_ h4_ h5_ h6_ h7_; have HO201 := n0_; have HO204 := n1_; have HO_196001 := n2_; have HO_196002 := n3_; have BK194 := n4_; have BK195 := n5_; have BK196 := n6_; have HB := n7_; clear n0_ n1_ n2_ n3_ n4_ n5_ n6_ n7_
                  have hHeld : w36.cell? ⟨gb195, 0, none⟩ = some (.slice Ao28 x196000_1.length co28) ∧ w36.cell? ⟨gb195, 1, none⟩ = some (.slice Ao29 x196001_1.length co29) ∧ w36.cell? ⟨gb195, 2, none⟩ = some (.slice Ao30 x196002_1.length co30) ∧ w36.cell? ⟨gb196, 0, none⟩ = some (.int .i16 x197000_8) ∧ w36.cell? ⟨gb196, 1, none⟩ = some (.int .i16 x197001_8) ∧ w36.cell? ⟨gb196, 2, none⟩ = some (.bool x197002_8) := hS_
                  refine norm_ (a' := ?_) ?_ ?_; rotate_left
                  ·simp only [putAll, Act.put, List.setIfInBounds_toArray, List.set_cons_zero, List.set_cons_succ]
                   rfl
                  refine two_ (i := 12) (j := 17) (Ni := some 37) (Nj := some 42) #[true, true, true, true, true, true, true, true, true, true, true, true, true, false, true, true, true, false, false, true, false, false, false, false, false] #[true, true, true, true, true, true, true, true, true, true, true, true, false, false, true, true, true, true, false, true, false, false, false, false, false] rfl rfl rfl rfl (two_of HT_.out (by kernel_rfl)) (by decide) (by decide) (fun K hK => ?_) (fun K hK => ?_)
                  ·refine Kd.R_lit_step (Kd.int .i16) _ 38 ?hg (N := 37) ?hd (xs := ([x197001_8] : List Int)) (inner := [.int .i16 x197001_8]) (ok := fun _ => True) (okp := fun _ => True) ?hr ?hp (fun _ hk => hk) trivial (Below.refl _ _) (Nat.le_refl _) (by simp) ?_; (case hd => rfl); (case hg => rfl); (case hr => exact a142_); (case hp => exact a145_)
                   intro v206 w37 ho38 hb hg_ hnew_
                   clear hg_ hnew_
                   (first | rw [← Ny205.out] at ho38 | (simp only [Int.reduceToNat] at ho38; rw [← Ny205.out] at ho38))
                   have n0_ := Aside0.mk (Kd.R_elder' a94_ (Kd.R_base ho38) hb)
                   have n1_ := Aside0.mk (Kd.R_elder' a93_ (Kd.R_base ho38) hb)
                   have n2_ := Aside0.mk (Kd.R_elder' a96_ (Kd.R_base ho38) hb)
                   have n3_ := Aside0.mk (Kd.R_elder' a99_ (Kd.R_base ho38) hb)
                   have n4_ := Aside0.mk (Kd.R_lower (Kd.R_new' (Kd.R_new' (Kd.R_new' (Kd.R_new' ho38 (Kd.R_lt a94_)) (Kd.R_lt a93_)) (Kd.R_lt a96_)) (Kd.R_lt a99_)) (below_size a88_))
                   have n5_ := Aside0.mk (blk_below (g := gb194) a89_ hb)
                   have n6_ := Aside0.mk (blk_below (g := gb195) a90_ hb)
                   have n7_ := Aside0.mk (blk_below (g := gb196) a91_ hb)
                   have n8_ := Aside0.mk (below_step a88_ hb)
                   clear HO_196001 HO_196002 HO201 HO204 BK194 BK195 BK196 HB; have HO_196001 := n0_; have HO_196002 := n1_; have HO201 := n2_; have HO204 := n3_; have HO207 := n4_; have BK194 := n5_; have BK195 := n6_; have BK196 := n7_; have HB := n8_; clear n0_ n1_ n2_ n3_ n4_ n5_ n6_ n7_ n8_ hb ho38
                   refine hK.out _ _ ⟨(blk_cell BK195.out 0).trans rfl, (blk_cell BK195.out 1).trans rfl, (blk_cell BK195.out 2).trans rfl, (blk_cell BK196.out 0).trans rfl, (blk_cell BK196.out 1).trans rfl, (blk_cell BK196.out 2).trans rfl⟩ (fun hHeld => ?_)
                   clear hK K; refine norm_ (a' := ?_) ?_ ?_; rotate_left
                   ·show Act.put _ (some 37) _ = _
                    simp only [Act.put, List.setIfInBounds_toArray, List.set_cons_zero, List.set_cons_succ, i64_w, i32_w]
                    rfl
                   exact norm_ a92_ (hJ5_6_12 (v200, v203, v206) _ ⟨hHeld, a135_, a136_, (by (with_reducible repeat (first | apply Kd.R_alloc | apply Kd.R_drewN | apply Kd.R_drew)); exact Kd.R_mono HO207.out (fun _ hk => ⟨hk.1.2, ⟨hk.2, ⟨hk.1.1.1.2, hk.1.1.2⟩⟩⟩)), a124_, a125_, a89_, a90_, a91_, a88_⟩)
                  ·refine Kd.R_lit_step (Kd.int .i16) _ 38 ?hg (N := 42) ?hd (xs := ([x8_19] : List Int)) (inner := [.int .i16 x8_19]) (ok := fun _ => True) (okp := fun _ => True) ?hr ?hp (fun _ hk => hk) trivial (Below.refl _ _) (Nat.le_refl _) (by simp) ?_; (case hd => rfl); (case hg => rfl); (case hr => exact a142_); (case hp => exact a144_)
                   intro v212 w37 ho38 hb hg_ hnew_
                   clear hg_ hnew_
                   (first | rw [← Ny211.out] at ho38 | (simp only [Int.reduceToNat] at ho38; rw [← Ny211.out] at ho38))
                   have n0_ := Aside0.mk (Kd.R_elder' a94_ (Kd.R_base ho38) hb)
                   have n1_ := Aside0.mk (Kd.R_elder' a93_ (Kd.R_base ho38) hb)
                   have n2_ := Aside0.mk (Kd.R_elder' a96_ (Kd.R_base ho38) hb)
                   have n3_ := Aside0.mk (Kd.R_elder' a99_ (Kd.R_base ho38) hb)
                   have n4_ := Aside0.mk (Kd.R_lower (Kd.R_new' (Kd.R_new' (Kd.R_new' (Kd.R_new' ho38 (Kd.R_lt a94_)) (Kd.R_lt a93_)) (Kd.R_lt a96_)) (Kd.R_lt a99_)) (below_size a88_))
                   have n5_ := Aside0.mk (blk_below (g := gb194) a89_ hb)
                   have n6_ := Aside0.mk (blk_below (g := gb195) a90_ hb)
                   have n7_ := Aside0.mk (blk_below (g := gb196) a91_ hb)
                   have n8_ := Aside0.mk (below_step a88_ hb)
                   clear HO_196001 HO_196002 HO201 HO204 BK194 BK195 BK196 HB; have HO_196001 := n0_; have HO_196002 := n1_; have HO201 := n2_; have HO204 := n3_; have HO213 := n4_; have BK194 := n5_; have BK195 := n6_; have BK196 := n7_; have HB := n8_; clear n0_ n1_ n2_ n3_ n4_ n5_ n6_ n7_ n8_ hb ho38
                   refine hK.out _ _ ⟨(blk_cell BK195.out 0).trans rfl, (blk_cell BK195.out 1).trans rfl, (blk_cell BK195.out 2).trans rfl, (blk_cell BK196.out 0).trans rfl, (blk_cell BK196.out 1).trans rfl, (blk_cell BK196.out 2).trans rfl⟩ (fun hHeld => ?_)
                   clear hK K; refine norm_ (a' := ?_) ?_ ?_; rotate_left
                   ·show Act.put _ (some 42) _ = _
                    simp only [Act.put, List.setIfInBounds_toArray, List.set_cons_zero, List.set_cons_succ, i64_w, i32_w]
                    rfl
                   exact norm_ a92_ (hJ5_6_17 (v200, v203, v212) _ ⟨hHeld, a135_, a136_, (by (with_reducible repeat (first | apply Kd.R_alloc | apply Kd.R_drewN | apply Kd.R_drew)); exact Kd.R_mono HO213.out (fun _ hk => ⟨hk.1.2, ⟨hk.2, ⟨hk.1.1.1.2, hk.1.1.2⟩⟩⟩)), a124_, a125_, a89_, a90_, a91_, a88_⟩)
                ·rintro ⟨v200, v206, v212⟩ w38 ⟨hS_, h0_, h1_, h2_, h3_, h4_, h5_, h6_, h7_, h8_, h9_⟩
                 have n0_ : Aside0 (Kd.R (Kd.int .i16) 38 w38 w.heap.size (fun k_ => some k_ ≠ (v206 : Value).ownBlock ∧ some k_ ≠ (v212 : Value).ownBlock ∧ nbk k_ Ao28 x196000_1.length co28 ∧ nbk k_ Ao29 x196001_1.length co29 ∧ nbk k_ Ao30 x196002_1.length co30) v200 y199) := ⟨h0_⟩
                 have n1_ : Aside0 (Kd.R (Kd.int .i16) 38 w38 w.heap.size (fun k_ => some k_ ≠ (v200 : Value).ownBlock ∧ some k_ ≠ (v212 : Value).ownBlock ∧ nbk k_ Ao28 x196000_1.length co28 ∧ nbk k_ Ao29 x196001_1.length co29 ∧ nbk k_ Ao30 x196002_1.length co30) v206 y205) := ⟨h1_⟩
                 have n2_ : Aside0 (Kd.R (Kd.int .i16) 38 w38 w.heap.size (fun k_ => some k_ ≠ (v200 : Value).ownBlock ∧ some k_ ≠ (v206 : Value).ownBlock ∧ nbk k_ Ao28 x196000_1.length co28 ∧ nbk k_ Ao29 x196001_1.length co29 ∧ nbk k_ Ao30 x196002_1.length co30) v212 y211) := ⟨h2_⟩
                 have n3_ : Aside0 (Kd.R (Kd.int .i16) 38 w38 w.heap.size (fun k_ => some k_ ≠ (v200 : Value).ownBlock ∧ some k_ ≠ (v206 : Value).ownBlock ∧ some k_ ≠ (v212 : Value).ownBlock ∧ nbk k_ Ao29 x196001_1.length co29 ∧ nbk k_ Ao30 x196002_1.length co30) (.slice Ao28 x196000_1.length co28) x196000_1) := ⟨h3_⟩
                 have n4_ : Aside0 (Kd.R (Kd.int .i16) 38 w38 w.heap.size (fun k_ => some k_ ≠ (v200 : Value).ownBlock ∧ some k_ ≠ (v206 : Value).ownBlock ∧ some k_ ≠ (v212 : Value).ownBlock ∧ nbk k_ Ao28 x196000_1.length co28 ∧ nbk k_ Ao30 x196002_1.length co30) (.slice Ao29 x196001_1.length co29) x196001_1) := ⟨h4_⟩
                 have n5_ : Aside0 (Kd.R (Kd.int .i16) 38 w38 w.heap.size (fun k_ => some k_ ≠ (v200 : Value).ownBlock ∧ some k_ ≠ (v206 : Value).ownBlock ∧ some k_ ≠ (v212 : Value).ownBlock ∧ nbk k_ Ao28 x196000_1.length co28 ∧ nbk k_ Ao29 x196001_1.length co29) (.slice Ao30 x196002_1.length co30) x196002_1) := ⟨h5_⟩
                 have n6_ : Aside0 (w38.heap[gb194]? = some (.cells #[.slice none 0 0, .slice none 0 0, .slice none 0 0] 29 (0, 0))) := ⟨h6_⟩
                 have n7_ : Aside0 (w38.heap[gb195]? = some (.cells #[.slice Ao28 x196000_1.length co28, .slice Ao29 x196001_1.length co29, .slice Ao30 x196002_1.length co30] 29 (0, 0))) := ⟨h7_⟩
                 have n8_ : Aside0 (w38.heap[gb196]? = some (.cells #[.int .i16 x197000_8, .int .i16 x197001_8, .bool x197002_8] 118 (0, 0))) := ⟨h8_⟩
                 have n9_ : Aside0 (Below w.heap.size w w38) := ⟨h9_⟩
                 clear HO_196000 HO_196001 HO_196002 BK194 BK195 BK196 HB h0_ h1_ h2_ h3_ h4_ h5_ h6_ h7_ h8_ h9_; have HO201 := n0_; have HO207 := n1_; have HO213 := n2_; have HO_196000 := n3_; have HO_196001 := n4_; have HO_196002 := n5_; have BK194 := n6_; have BK195 := n7_; have BK196 := n8_; have HB := n9_; clear n0_ n1_ n2_ n3_ n4_ n5_ n6_ n7_ n8_ n9_
                 have hHeld : w38.cell? ⟨gb195, 0, none⟩ = some (.slice Ao28 x196000_1.length co28) ∧ w38.cell? ⟨gb195, 1, none⟩ = some (.slice Ao29 x196001_1.length co29) ∧ w38.cell? ⟨gb195, 2, none⟩ = some (.slice Ao30 x196002_1.length co30) ∧ w38.cell? ⟨gb196, 0, none⟩ = some (.int .i16 x197000_8) ∧ w38.cell? ⟨gb196, 1, none⟩ = some (.int .i16 x197001_8) ∧ w38.cell? ⟨gb196, 2, none⟩ = some (.bool x197002_8) := hS_
                 obtain ⟨Ao40, co40, eo40⟩ := Kd.R_slice HO201.out
                 (first | subst eo40 | (injection eo40 with f1_ f2_ f3_; have f4_ := f1_.symm; have f5_ := f3_.symm; clear f1_ f2_ f3_; subst f4_; subst f5_))
                 refine norm_ (a' := ?_) ?_ ?_; rotate_left
                 ·simp only [putAll, Act.put, List.setIfInBounds_toArray, List.set_cons_zero, List.set_cons_succ]
                  rfl
                 refine one_ (i := 6) (N := some 31) #[true, true, true, true, true, true, true, true, true, true, true, true, true, false, true, true, true, true, false, false, false, false, false, false, false] rfl rfl (one_of HT_.out (by kernel_rfl)) (by decide) (fun K hK => ?_)
                 refine Kd.R_append_rows_step (Kd.int .i16) (w0 := w) w.heap.size (by rfl) (.tmp 26) (.tmp 30) 27 38 (.int .i16 0) 2 rfl Try.underlying27 info38 rfl (by decide) (by omega) (.slice Ao28 x196000_1.length co28) x196000_1 y199 _ _ _ (fun k_ => nbk k_ Ao29 x196001_1.length co29 ∧ nbk k_ Ao30 x196002_1.length co30 ∧ nbk k_ Ao40 y199.length co40 ∧ some k_ ≠ (v206 : Value).ownBlock ∧ some k_ ≠ (v212 : Value).ownBlock) (fun _ => False) rfl rfl ?aO ?aR (fun _ _ h => h) (fun _ h => h.elim) ?aF ?aB ?aS ?aL ?_
                 (case aR => exact a143_); (case aB => exact a88_)
                 (case aF => exact (fun k_ hk => ⟨Kd.fresh' (Kd.R_lt a94_) k_ hk, Kd.fresh' (Kd.R_lt a93_) k_ hk, Kd.fresh' (Kd.R_lt a96_) k_ hk, Kd.fresh' (Kd.R_lt a97_) k_ hk, Kd.fresh' (Kd.R_lt a98_) k_ hk⟩))
                 (case aO => exact (by (with_reducible repeat (first | apply Kd.R_alloc | apply Kd.R_drewN | apply Kd.R_drew)); exact Kd.R_mono HO_196000.out (fun _ hk => ⟨hk.2.2.2.1, ⟨hk.2.2.2.2, ⟨hk.1, ⟨hk.2.1, hk.2.2.1⟩⟩⟩⟩)))
                 (case aS => exact (below_size a88_))
                 (case aL => have := LMc25.out; omega)
                 intro v203 w39 ho hb hg hat
                 rw [← Ny202.out] at ho
                 have n0_ := Aside0.mk (Kd.R_after (ok := (fun k_ => nbk k_ Ao30 x196002_1.length co30 ∧ nbk k_ Ao40 y199.length co40 ∧ some k_ ≠ (v206 : Value).ownBlock ∧ some k_ ≠ (v212 : Value).ownBlock)) (by (with_reducible repeat (first | apply Kd.R_alloc | apply Kd.R_drewN | apply Kd.R_drew)); exact Kd.R_mono HO_196001.out (fun _ hk => ⟨⟨hk.2.2.2.2, ⟨hk.1, ⟨hk.2.1, hk.2.2.1⟩⟩⟩, hk.2.2.2.1⟩)) hg hat)
                 have n1_ := Aside0.mk (Kd.R_after (ok := (fun k_ => nbk k_ Ao29 x196001_1.length co29 ∧ nbk k_ Ao40 y199.length co40 ∧ some k_ ≠ (v206 : Value).ownBlock ∧ some k_ ≠ (v212 : Value).ownBlock)) (by (with_reducible repeat (first | apply Kd.R_alloc | apply Kd.R_drewN | apply Kd.R_drew)); exact Kd.R_mono HO_196002.out (fun _ hk => ⟨⟨hk.2.2.2.2, ⟨hk.1, ⟨hk.2.1, hk.2.2.1⟩⟩⟩, hk.2.2.2.1⟩)) hg hat)
                 have n2_ := Aside0.mk (blk_grown (g := gb194) (o := .cells #[.slice none 0 0, .slice none 0 0, .slice none 0 0] 29 (0, 0)) a89_ hg (Kd.R_ne HO_196000.out BK194.out (by decide)))
                 have n3_ := Aside0.mk (blk_grown (g := gb195) (o := .cells #[.slice Ao28 x196000_1.length co28, .slice Ao29 x196001_1.length co29, .slice Ao30 x196002_1.length co30] 29 (0, 0)) a90_ hg (Kd.R_ne HO_196000.out BK195.out (by decide)))
                 have n4_ := Aside0.mk (blk_grown (g := gb196) (o := .cells #[.int .i16 x197000_8, .int .i16 x197001_8, .bool x197002_8] 118 (0, 0)) a91_ hg (Kd.R_ne HO_196000.out BK196.out (by decide)))
                 have n5_ := Aside0.mk (Kd.R_after (ok := (fun k_ => nbk k_ Ao29 x196001_1.length co29 ∧ nbk k_ Ao30 x196002_1.length co30 ∧ some k_ ≠ (v206 : Value).ownBlock ∧ some k_ ≠ (v212 : Value).ownBlock)) (by (with_reducible repeat (first | apply Kd.R_alloc | apply Kd.R_drewN | apply Kd.R_drew)); exact Kd.R_mono HO201.out (fun _ hk => ⟨⟨hk.2.2.2.1, ⟨hk.2.2.2.2, ⟨hk.1, hk.2.1⟩⟩⟩, hk.2.2.1⟩)) hg hat)
                 have n6_ := Aside0.mk (Kd.R_after (ok := (fun k_ => nbk k_ Ao29 x196001_1.length co29 ∧ nbk k_ Ao30 x196002_1.length co30 ∧ nbk k_ Ao40 y199.length co40 ∧ some k_ ≠ (v212 : Value).ownBlock)) (by (with_reducible repeat (first | apply Kd.R_alloc | apply Kd.R_drewN | apply Kd.R_drew)); exact Kd.R_mono HO207.out (fun _ hk => ⟨⟨hk.2.2.2.1, ⟨hk.2.2.2.2, ⟨hk.1, hk.2.1⟩⟩⟩, hk.2.2.1⟩)) hg hat)
                 have n7_ := Aside0.mk (Kd.R_after (ok := (fun k_ => nbk k_ Ao29 x196001_1.length co29 ∧ nbk k_ Ao30 x196002_1.length co30 ∧ nbk k_ Ao40 y199.length co40 ∧ some k_ ≠ (v206 : Value).ownBlock)) (by (with_reducible repeat (first | apply Kd.R_alloc | apply Kd.R_drewN | apply Kd.R_drew)); exact Kd.R_mono HO213.out (fun _ hk => ⟨⟨hk.2.2.2.1, ⟨hk.2.2.2.2, ⟨hk.1, hk.2.1⟩⟩⟩, hk.2.2.1⟩)) hg hat)
                 have n8_ := Aside0.mk (hb)
                 have n9_ := Aside0.mk (ho)
                 clear HO_196001 HO_196002 BK194 BK195 BK196 HO201 HO207 HO213 HB HO_196000; have HO_196001 := n0_; have HO_196002 := n1_; have BK194 := n2_; have BK195 := n3_; have BK196 := n4_; have HO201 := n5_; have HO207 := n6_; have HO213 := n7_; have HB := n8_; have HO204 := n9_; clear n0_ n1_ n2_ n3_ n4_ n5_ n6_ n7_ n8_ n9_ ho hb hg hat
                 refine hK.out _ _ ⟨(blk_cell BK195.out 0).trans rfl, (blk_cell BK195.out 1).trans rfl, (blk_cell BK195.out 2).trans rfl, (blk_cell BK196.out 0).trans rfl, (blk_cell BK196.out 1).trans rfl, (blk_cell BK196.out 2).trans rfl⟩ (fun hHeld => ?_)
                 clear hK K; refine norm_ (a' := ?_) ?_ ?_; rotate_left
                 ·show Act.put _ (some 31) _ = _
                  simp only [Act.put, List.setIfInBounds_toArray, List.set_cons_zero, List.set_cons_succ, i64_w, i32_w]
                  rfl
                 refine pure_ (i := 19) (N := some 44) (v := ?_) (a' := ?_) #[true, true, true, true, true, true, true, true, true, true, true, true, true, false, true, true, true, true, false, true, false, false, false, false, false] rfl rfl (any_of HT_.out (by kernel_rfl)) (fun _ _ _ h => h) (Or.inl ⟨by rfl, ?_⟩) ?_ ?_
                 rotate_left
                 ·intro w'
                  go_simp; with_reducible rfl
                 rotate_left
                 ·simp only [Act.put, List.setIfInBounds_toArray, List.set_cons_zero, List.set_cons_succ, i64_w, i32_w]
                  rfl
                 exact norm_ a92_ (hJ5_6_12_17 (.slice Ao40 y199.length co40, v203, v206, v212) _ ⟨hHeld, (by (with_reducible repeat (first | apply Kd.R_alloc | apply Kd.R_drewN | apply Kd.R_drew)); exact Kd.R_mono HO201.out (fun _ hk => ⟨hk.2, ⟨hk.1.2.2.1, ⟨hk.1.2.2.2, ⟨hk.1.1, hk.1.2.1⟩⟩⟩⟩)), (by (with_reducible repeat (first | apply Kd.R_alloc | apply Kd.R_drewN | apply Kd.R_drew)); exact Kd.R_mono HO204.out (fun _ hk => ⟨hk.2.2.1, ⟨hk.2.2.2.1, ⟨hk.2.2.2.2, ⟨hk.1, hk.2.1⟩⟩⟩⟩)), (by (with_reducible repeat (first | apply Kd.R_alloc | apply Kd.R_drewN | apply Kd.R_drew)); exact Kd.R_mono HO207.out (fun _ hk => ⟨hk.1.2.2.1, ⟨hk.2, ⟨hk.1.2.2.2, ⟨hk.1.1, hk.1.2.1⟩⟩⟩⟩)), (by (with_reducible repeat (first | apply Kd.R_alloc | apply Kd.R_drewN | apply Kd.R_drew)); exact Kd.R_mono HO213.out (fun _ hk => ⟨hk.1.2.2.1, ⟨hk.2, ⟨hk.1.2.2.2, ⟨hk.1.1, hk.1.2.1⟩⟩⟩⟩)), (by (with_reducible repeat (first | apply Kd.R_alloc | apply Kd.R_drewN | apply Kd.R_drew)); exact Kd.R_mono HO_196001.out (fun _ hk => ⟨hk.1.2.1, ⟨hk.2, ⟨hk.1.2.2.1, ⟨hk.1.2.2.2, hk.1.1⟩⟩⟩⟩)), (by (with_reducible repeat (first | apply Kd.R_alloc | apply Kd.R_drewN | apply Kd.R_drew)); exact Kd.R_mono HO_196002.out (fun _ hk => ⟨hk.1.2.1, ⟨hk.2, ⟨hk.1.2.2.1, ⟨hk.1.2.2.2, hk.1.1⟩⟩⟩⟩)), a89_, a90_, a91_, a88_⟩)
               ·rintro ⟨v200, v203, v212⟩ w38 ⟨hS_, h0_, h1_, h2_, h3_, h4_, h5_, h6_, h7_, h8_⟩
                have n0_ : Aside0 (Kd.R (Kd.int .i16) 38 w38 w.heap.size (fun k_ => some k_ ≠ (v203 : Value).ownBlock ∧ some k_ ≠ (v212 : Value).ownBlock ∧ nbk k_ Ao29 x196001_1.length co29 ∧ nbk k_ Ao30 x196002_1.length co30) v200 y199) := ⟨h0_⟩
                have n1_ : Aside0 (Kd.R (Kd.int .i16) 38 w38 w.heap.size (fun k_ => some k_ ≠ (v200 : Value).ownBlock ∧ some k_ ≠ (v212 : Value).ownBlock ∧ nbk k_ Ao29 x196001_1.length co29 ∧ nbk k_ Ao30 x196002_1.length co30) v203 y202) := ⟨h1_⟩
                have n2_ : Aside0 (Kd.R (Kd.int .i16) 38 w38 w.heap.size (fun k_ => some k_ ≠ (v200 : Value).ownBlock ∧ some k_ ≠ (v203 : Value).ownBlock ∧ nbk k_ Ao29 x196001_1.length co29 ∧ nbk k_ Ao30 x196002_1.length co30) v212 y211) := ⟨h2_⟩
                have n3_ : Aside0 (Kd.R (Kd.int .i16) 38 w38 w.heap.size (fun k_ => some k_ ≠ (v200 : Value).ownBlock ∧ some k_ ≠ (v203 : Value).ownBlock ∧ some k_ ≠ (v212 : Value).ownBlock ∧ nbk k_ Ao30 x196002_1.length co30) (.slice Ao29 x196001_1.length co29) x196001_1) := ⟨h3_⟩
                have n4_ : Aside0 (Kd.R (Kd.int .i16) 38 w38 w.heap.size (fun k_ => some k_ ≠ (v200 : Value).ownBlock ∧ some k_ ≠ (v203 : Value).ownBlock ∧ some k_ ≠ (v212 : Value).ownBlock ∧ nbk k_ Ao29 x196001_1.length co29) (.slice Ao30 x196002_1.length co30) x196002_1) := ⟨h4_⟩
                have n5_ : Aside0 (w38.heap[gb194]? = some (.cells #[.slice none 0 0, .slice none 0 0, .slice none 0 0] 29 (0, 0))) := ⟨h5_⟩
                have n6_ : Aside0 (w38.heap[gb195]? = some (.cells #[.slice Ao28 x196000_1.length co28, .slice Ao29 x196001_1.length co29, .slice Ao30 x196002_1.length co30] 29 (0, 0))) := ⟨h6_⟩
                have n7_ : Aside0 (w38.heap[gb196]? = some (.cells #[.int .i16 x197000_8, .int .i16 x197001_8, .bool x197002_8] 118 (0, 0))) := ⟨h7_⟩
                have n8_ : Aside0 (Below w.heap.size w w38) := ⟨h8_⟩
                clear HO_196000 HO_196001 HO_196002 BK194 BK195 BK196 HB h0_ h1_ h2_ h3_ h4_ h5_ h6_ h7_ h8_; have HO201 := n0_; have HO204 := n1_; have HO213 := n2_; have HO_196001 := n3_; have HO_196002 := n4_; have BK194 := n5_; have BK195 := n6_; have BK196 := n7_; have HB := n8_; clear n0_ n1_ n2_ n3_ n4_ n5_ n6_ n7_ n8_
                have hHeld : w38.cell? ⟨gb195, 0, none⟩ = some (.slice Ao28 x196000_1.length co28) ∧ w38.cell? ⟨gb195, 1, none⟩ = some (.slice Ao29 x196001_1.length co29) ∧ w38.cell? ⟨gb195, 2, none⟩ = some (.slice Ao30 x196002_1.length co30) ∧ w38.cell? ⟨gb196, 0, none⟩ = some (.int .i16 x197000_8) ∧ w38.cell? ⟨gb196, 1, none⟩ = some (.int .i16 x197001_8) ∧ w38.cell? ⟨gb196, 2, none⟩ = some (.bool x197002_8) := hS_
                refine norm_ (a' := ?_) ?_ ?_; rotate_left
                ·simp only [putAll, Act.put, List.setIfInBounds_toArray, List.set_cons_zero, List.set_cons_succ]
                 rfl
                refine one_ (i := 12) (N := some 37) #[true, true, true, true, true, true, true, true, true, true, true, true, true, false, true, true, true, true, false, true, false, false, false, false, false] rfl rfl (one_of HT_.out (by kernel_rfl)) (by decide) (fun K hK => ?_)
                refine Kd.R_lit_step (Kd.int .i16) _ 38 ?hg (N := 37) ?hd (xs := ([x197001_8] : List Int)) (inner := [.int .i16 x197001_8]) (ok := fun _ => True) (okp := fun _ => True) ?hr ?hp (fun _ hk => hk) trivial (Below.refl _ _) (Nat.le_refl _) (by simp) ?_; (case hd => rfl); (case hg => rfl); (case hr => exact a142_); (case hp => exact a145_)
                intro v206 w39 ho40 hb hg_ hnew_
                clear hg_ hnew_
                (first | rw [← Ny205.out] at ho40 | (simp only [Int.reduceToNat] at ho40; rw [← Ny205.out] at ho40))
                have n0_ := Aside0.mk (Kd.R_elder' a94_ (Kd.R_base ho40) hb)
                have n1_ := Aside0.mk (Kd.R_elder' a93_ (Kd.R_base ho40) hb)
                have n2_ := Aside0.mk (Kd.R_elder' a96_ (Kd.R_base ho40) hb)
                have n3_ := Aside0.mk (Kd.R_elder' a99_ (Kd.R_base ho40) hb)
                have n4_ := Aside0.mk (Kd.R_elder' a98_ (Kd.R_base ho40) hb)
                have n5_ := Aside0.mk (Kd.R_lower (Kd.R_new' (Kd.R_new' (Kd.R_new' (Kd.R_new' (Kd.R_new' ho40 (Kd.R_lt a94_)) (Kd.R_lt a93_)) (Kd.R_lt a96_)) (Kd.R_lt a99_)) (Kd.R_lt a98_)) (below_size a88_))
                have n6_ := Aside0.mk (blk_below (g := gb194) a89_ hb)
                have n7_ := Aside0.mk (blk_below (g := gb195) a90_ hb)
                have n8_ := Aside0.mk (blk_below (g := gb196) a91_ hb)
                have n9_ := Aside0.mk (below_step a88_ hb)
                clear HO_196001 HO_196002 HO201 HO204 HO213 BK194 BK195 BK196 HB; have HO_196001 := n0_; have HO_196002 := n1_; have HO201 := n2_; have HO204 := n3_; have HO213 := n4_; have HO207 := n5_; have BK194 := n6_; have BK195 := n7_; have BK196 := n8_; have HB := n9_; clear n0_ n1_ n2_ n3_ n4_ n5_ n6_ n7_ n8_ n9_ hb ho40
                refine hK.out _ _ ⟨(blk_cell BK195.out 0).trans rfl, (blk_cell BK195.out 1).trans rfl, (blk_cell BK195.out 2).trans rfl, (blk_cell BK196.out 0).trans rfl, (blk_cell BK196.out 1).trans rfl, (blk_cell BK196.out 2).trans rfl⟩ (fun hHeld => ?_)
                clear hK K; refine norm_ (a' := ?_) ?_ ?_; rotate_left
                ·show Act.put _ (some 37) _ = _
                 simp only [Act.put, List.setIfInBounds_toArray, List.set_cons_zero, List.set_cons_succ, i64_w, i32_w]
                 rfl
                exact norm_ a92_ (hJ5_6_12_17 (v200, v203, v206, v212) _ ⟨hHeld, a115_, (by (with_reducible repeat (first | apply Kd.R_alloc | apply Kd.R_drewN | apply Kd.R_drew)); exact Kd.R_mono HO204.out (fun _ hk => ⟨hk.1.1, ⟨hk.2, ⟨hk.1.2.1, ⟨hk.1.2.2.1, hk.1.2.2.2⟩⟩⟩⟩)), (by (with_reducible repeat (first | apply Kd.R_alloc | apply Kd.R_drewN | apply Kd.R_drew)); exact Kd.R_mono HO207.out (fun _ hk => ⟨hk.1.1.2, ⟨hk.1.2, ⟨hk.2, ⟨hk.1.1.1.1.2, hk.1.1.1.2⟩⟩⟩⟩)), (by (with_reducible repeat (first | apply Kd.R_alloc | apply Kd.R_drewN | apply Kd.R_drew)); exact Kd.R_mono HO213.out (fun _ hk => ⟨hk.1.1, ⟨hk.1.2.1, ⟨hk.2, ⟨hk.1.2.2.1, hk.1.2.2.2⟩⟩⟩⟩)), a112_, a113_, a89_, a90_, a91_, a88_⟩)
              ·rintro ⟨v200, v203, v206⟩ w38 ⟨hS_, h0_, h1_, h2_, h3_, h4_, h5_, h6_, h7_, h8_⟩
               have n0_ : Aside0 (Kd.R (Kd.int .i16) 38 w38 w.heap.size (fun k_ => some k_ ≠ (v203 : Value).ownBlock ∧ some k_ ≠ (v206 : Value).ownBlock ∧ nbk k_ Ao29 x196001_1.length co29 ∧ nbk k_ Ao30 x196002_1.length co30) v200 y199) := ⟨h0_⟩
               have n1_ : Aside0 (Kd.R (Kd.int .i16) 38 w38 w.heap.size (fun k_ => some k_ ≠ (v200 : Value).ownBlock ∧ some k_ ≠ (v206 : Value).ownBlock ∧ nbk k_ Ao29 x196001_1.length co29 ∧ nbk k_ Ao30 x196002_1.length co30) v203 y202) := ⟨h1_⟩
               have n2_ : Aside0 (Kd.R (Kd.int .i16) 38 w38 w.heap.size (fun k_ => some k_ ≠ (v200 : Value).ownBlock ∧ some k_ ≠ (v203 : Value).ownBlock ∧ nbk k_ Ao29 x196001_1.length co29 ∧ nbk k_ Ao30 x196002_1.length co30) v206 y205) := ⟨h2_⟩
               have n3_ : Aside0 (Kd.R (Kd.int .i16) 38 w38 w.heap.size (fun k_ => some k_ ≠ (v200 : Value).ownBlock ∧ some k_ ≠ (v203 : Value).ownBlock ∧ some k_ ≠ (v206 : Value).ownBlock ∧ nbk k_ Ao30 x196002_1.length co30) (.slice Ao29 x196001_1.length co29) x196001_1) := ⟨h3_⟩
               have n4_ : Aside0 (Kd.R (Kd.int .i16) 38 w38 w.heap.size (fun k_ => some k_ ≠ (v200 : Value).ownBlock ∧ some k_ ≠ (v203 : Value).ownBlock ∧ some k_ ≠ (v206 : Value).ownBlock ∧ nbk k_ Ao29 x196001_1.length co29) (.slice Ao30 x196002_1.length co30) x196002_1) := ⟨h4_⟩
               have n5_ : Aside0 (w38.heap[gb194]? = some (.cells #[.slice none 0 0, .slice none 0 0, .slice none 0 0] 29 (0, 0))) := ⟨h5_⟩
               have n6_ : Aside0 (w38.heap[gb195]? = some (.cells #[.slice Ao28 x196000_1.length co28, .slice Ao29 x196001_1.length co29, .slice Ao30 x196002_1.length co30] 29 (0, 0))) := ⟨h6_⟩
               have n7_ : Aside0 (w38.heap[gb196]? = some (.cells #[.int .i16 x197000_8, .int .i16 x197001_8, .bool x197002_8] 118 (0, 0))) := ⟨h7_⟩
               have n8_ : Aside0 (Below w.heap.size w w38) := ⟨h8_⟩
               clear HO_196000 HO_196001 HO_196002 BK194 BK195 BK196 HB h0_ h1_ h2_ h3_ h4_ h5_ h6_ h7_ h8_; have HO201 := n0_; have HO204 := n1_; have HO207 := n2_; have HO_196001 := n3_; have HO_196002 := n4_; have BK194 := n5_; have BK195 := n6_; have BK196 := n7_; have HB := n8_; clear n0_ n1_ n2_ n3_ n4_ n5_ n6_ n7_ n8_
               have hHeld : w38.cell? ⟨gb195, 0, none⟩ = some (.slice Ao28 x196000_1.length co28) ∧ w38.cell? ⟨gb195, 1, none⟩ = some (.slice Ao29 x196001_1.length co29) ∧ w38.cell? ⟨gb195, 2, none⟩ = some (.slice Ao30 x196002_1.length co30) ∧ w38.cell? ⟨gb196, 0, none⟩ = some (.int .i16 x197000_8) ∧ w38.cell? ⟨gb196, 1, none⟩ = some (.int .i16 x197001_8) ∧ w38.cell? ⟨gb196, 2, none⟩ = some (.bool x197002_8) := hS_
               obtain ⟨Ao40, co40, eo40⟩ := Kd.R_slice HO207.out
               (first | subst eo40 | (injection eo40 with f1_ f2_ f3_; have f4_ := f1_.symm; have f5_ := f3_.symm; clear f1_ f2_ f3_; subst f4_; subst f5_))
               refine norm_ (a' := ?_) ?_ ?_; rotate_left
               ·simp only [putAll, Act.put, List.setIfInBounds_toArray, List.set_cons_zero, List.set_cons_succ]
                rfl
               refine two_ (i := 13) (j := 17) (Ni := some 38) (Nj := some 42) #[true, true, true, true, true, true, true, true, true, true, true, true, true, true, true, true, true, false, false, true, false, false, false, false, false] #[true, true, true, true, true, true, true, true, true, true, true, true, true, false, true, true, true, true, false, true, false, false, false, false, false] rfl rfl rfl rfl (two_of HT_.out (by kernel_rfl)) (by decide) (by decide) (fun K hK => ?_) (fun K hK => ?_)
               ·refine Kd.R_append_rows_step (Kd.int .i16) (w0 := w) w.heap.size (by rfl) (.tmp 33) (.tmp 37) 27 38 (.int .i16 0) 2 rfl Try.underlying27 info38 rfl (by decide) (by omega) (.slice Ao29 x196001_1.length co29) x196001_1 y205 _ _ _ (fun k_ => nbk k_ Ao30 x196002_1.length co30 ∧ some k_ ≠ (v200 : Value).ownBlock ∧ some k_ ≠ (v203 : Value).ownBlock ∧ nbk k_ Ao40 y205.length co40) (fun _ => False) rfl rfl ?aO ?aR (fun _ _ h => h) (fun _ h => h.elim) ?aF ?aB ?aS ?aL ?_
                (case aR => exact a147_); (case aB => exact a88_)
                (case aF => exact (fun k_ hk => ⟨Kd.fresh' (Kd.R_lt a93_) k_ hk, Kd.fresh' (Kd.R_lt a96_) k_ hk, Kd.fresh' (Kd.R_lt a99_) k_ hk, Kd.fresh' (Kd.R_lt a97_) k_ hk⟩))
                (case aO => exact (by (with_reducible repeat (first | apply Kd.R_alloc | apply Kd.R_drewN | apply Kd.R_drew)); exact Kd.R_mono HO_196001.out (fun _ hk => ⟨hk.2.2.2, ⟨hk.1, ⟨hk.2.1, hk.2.2.1⟩⟩⟩)))
                (case aS => exact (below_size a88_))
                (case aL => have := LMc26.out; omega)
                intro v209 w39 ho hb hg hat
                rw [← Ny208.out] at ho
                have n0_ := Aside0.mk (Kd.R_after (ok := (fun k_ => some k_ ≠ (v200 : Value).ownBlock ∧ some k_ ≠ (v203 : Value).ownBlock ∧ nbk k_ Ao40 y205.length co40)) (by (with_reducible repeat (first | apply Kd.R_alloc | apply Kd.R_drewN | apply Kd.R_drew)); exact Kd.R_mono HO_196002.out (fun _ hk => ⟨⟨hk.1, ⟨hk.2.1, hk.2.2.1⟩⟩, hk.2.2.2⟩)) hg hat)
                have n1_ := Aside0.mk (blk_grown (g := gb194) (o := .cells #[.slice none 0 0, .slice none 0 0, .slice none 0 0] 29 (0, 0)) a89_ hg (Kd.R_ne HO_196001.out BK194.out (by decide)))
                have n2_ := Aside0.mk (blk_grown (g := gb195) (o := .cells #[.slice Ao28 x196000_1.length co28, .slice Ao29 x196001_1.length co29, .slice Ao30 x196002_1.length co30] 29 (0, 0)) a90_ hg (Kd.R_ne HO_196001.out BK195.out (by decide)))
                have n3_ := Aside0.mk (blk_grown (g := gb196) (o := .cells #[.int .i16 x197000_8, .int .i16 x197001_8, .bool x197002_8] 118 (0, 0)) a91_ hg (Kd.R_ne HO_196001.out BK196.out (by decide)))
                have n4_ := Aside0.mk (Kd.R_after (ok := (fun k_ => nbk k_ Ao30 x196002_1.length co30 ∧ some k_ ≠ (v203 : Value).ownBlock ∧ nbk k_ Ao40 y205.length co40)) (by (with_reducible repeat (first | apply Kd.R_alloc | apply Kd.R_drewN | apply Kd.R_drew)); exact Kd.R_mono HO201.out (fun _ hk => ⟨⟨hk.2.2.2, ⟨hk.1, hk.2.1⟩⟩, hk.2.2.1⟩)) hg hat)
                have n5_ := Aside0.mk (Kd.R_after (ok := (fun k_ => nbk k_ Ao30 x196002_1.length co30 ∧ some k_ ≠ (v200 : Value).ownBlock ∧ nbk k_ Ao40 y205.length co40)) (by (with_reducible repeat (first | apply Kd.R_alloc | apply Kd.R_drewN | apply Kd.R_drew)); exact Kd.R_mono HO204.out (fun _ hk => ⟨⟨hk.2.2.2, ⟨hk.1, hk.2.1⟩⟩, hk.2.2.1⟩)) hg hat)
                have n6_ := Aside0.mk (Kd.R_after (ok := (fun k_ => nbk k_ Ao30 x196002_1.length co30 ∧ some k_ ≠ (v200 : Value).ownBlock ∧ some k_ ≠ (v203 : Value).ownBlock)) (by (with_reducible repeat (first | apply Kd.R_alloc | apply Kd.R_drewN | apply Kd.R_drew)); exact Kd.R_mono HO207.out (fun _ hk => ⟨⟨hk.2.2.2, ⟨hk.1, hk.2.1⟩⟩, hk.2.2.1⟩)) hg hat)
                have n7_ := Aside0.mk (hb)
                have n8_ := Aside0.mk (ho)
                clear HO_196002 BK194 BK195 BK196 HO201 HO204 HO207 HB HO_196001; have HO_196002 := n0_; have BK194 := n1_; have BK195 := n2_; have BK196 := n3_; have HO201 := n4_; have HO204 := n5_; have HO207 := n6_; have HB := n7_; have HO210 := n8_; clear n0_ n1_ n2_ n3_ n4_ n5_ n6_ n7_ n8_ ho hb hg hat
                refine hK.out _ _ ⟨(blk_cell BK195.out 0).trans rfl, (blk_cell BK195.out 1).trans rfl, (blk_cell BK195.out 2).trans rfl, (blk_cell BK196.out 0).trans rfl, (blk_cell BK196.out 1).trans rfl, (blk_cell BK196.out 2).trans rfl⟩ (fun hHeld => ?_)
                clear hK K; refine norm_ (a' := ?_) ?_ ?_; rotate_left
                ·show Act.put _ (some 38) _ = _
                 simp only [Act.put, List.setIfInBounds_toArray, List.set_cons_zero, List.set_cons_succ, i64_w, i32_w]
                 rfl
                exact norm_ a92_ (hJ5_6_12_13 (v200, v203, .slice Ao40 y205.length co40, v209) _ ⟨hHeld, (by (with_reducible repeat (first | apply Kd.R_alloc | apply Kd.R_drewN | apply Kd.R_drew)); exact Kd.R_mono HO201.out (fun _ hk => ⟨hk.1.2.1, ⟨hk.1.2.2, ⟨hk.2, hk.1.1⟩⟩⟩)), (by (with_reducible repeat (first | apply Kd.R_alloc | apply Kd.R_drewN | apply Kd.R_drew)); exact Kd.R_mono HO204.out (fun _ hk => ⟨hk.1.2.1, ⟨hk.1.2.2, ⟨hk.2, hk.1.1⟩⟩⟩)), (by (with_reducible repeat (first | apply Kd.R_alloc | apply Kd.R_drewN | apply Kd.R_drew)); exact Kd.R_mono HO207.out (fun _ hk => ⟨hk.1.2.1, ⟨hk.1.2.2, ⟨hk.2, hk.1.1⟩⟩⟩)), (by (with_reducible repeat (first | apply Kd.R_alloc | apply Kd.R_drewN | apply Kd.R_drew)); exact Kd.R_mono HO210.out (fun _ hk => ⟨hk.2.1, ⟨hk.2.2.1, ⟨hk.2.2.2, hk.1⟩⟩⟩)), (by (with_reducible repeat (first | apply Kd.R_alloc | apply Kd.R_drewN | apply Kd.R_drew)); exact Kd.R_mono HO_196002.out (fun _ hk => ⟨hk.1.1, ⟨hk.1.2.1, ⟨hk.1.2.2, hk.2⟩⟩⟩)), a89_, a90_, a91_, a88_⟩)
               ·refine Kd.R_lit_step (Kd.int .i16) _ 38 ?hg (N := 42) ?hd (xs := ([x8_19] : List Int)) (inner := [.int .i16 x8_19]) (ok := fun _ => True) (okp := fun _ => True) ?hr ?hp (fun _ hk => hk) trivial (Below.refl _ _) (Nat.le_refl _) (by simp) ?_; (case hd => rfl); (case hg => rfl); (case hr => exact a142_); (case hp => exact a144_)
                intro v212 w39 ho40 hb hg_ hnew_
                clear hg_ hnew_
                (first | rw [← Ny211.out] at ho40 | (simp only [Int.reduceToNat] at ho40; rw [← Ny211.out] at ho40))
                have n0_ := Aside0.mk (Kd.R_elder' a94_ (Kd.R_base ho40) hb)
                have n1_ := Aside0.mk (Kd.R_elder' a93_ (Kd.R_base ho40) hb)
                have n2_ := Aside0.mk (Kd.R_elder' a96_ (Kd.R_base ho40) hb)
                have n3_ := Aside0.mk (Kd.R_elder' a99_ (Kd.R_base ho40) hb)
                have n4_ := Aside0.mk (Kd.R_elder' a97_ (Kd.R_base ho40) hb)
                have n5_ := Aside0.mk (Kd.R_lower (Kd.R_new' (Kd.R_new' (Kd.R_new' (Kd.R_new' (Kd.R_new' ho40 (Kd.R_lt a94_)) (Kd.R_lt a93_)) (Kd.R_lt a96_)) (Kd.R_lt a99_)) (Kd.R_lt a97_)) (below_size a88_))
                have n6_ := Aside0.mk (blk_below (g := gb194) a89_ hb)
                have n7_ := Aside0.mk (blk_below (g := gb195) a90_ hb)
                have n8_ := Aside0.mk (blk_below (g := gb196) a91_ hb)
                have n9_ := Aside0.mk (below_step a88_ hb)
                clear HO_196001 HO_196002 HO201 HO204 HO207 BK194 BK195 BK196 HB; have HO_196001 := n0_; have HO_196002 := n1_; have HO201 := n2_; have HO204 := n3_; have HO207 := n4_; have HO213 := n5_; have BK194 := n6_; have BK195 := n7_; have BK196 := n8_; have HB := n9_; clear n0_ n1_ n2_ n3_ n4_ n5_ n6_ n7_ n8_ n9_ hb ho40
                refine hK.out _ _ ⟨(blk_cell BK195.out 0).trans rfl, (blk_cell BK195.out 1).trans rfl, (blk_cell BK195.out 2).trans rfl, (blk_cell BK196.out 0).trans rfl, (blk_cell BK196.out 1).trans rfl, (blk_cell BK196.out 2).trans rfl⟩ (fun hHeld => ?_)
                clear hK K; refine norm_ (a' := ?_) ?_ ?_; rotate_left
                ·show Act.put _ (some 42) _ = _
                 simp only [Act.put, List.setIfInBounds_toArray, List.set_cons_zero, List.set_cons_succ, i64_w, i32_w]
                 rfl
                exact norm_ a92_ (hJ5_6_12_17 (v200, v203, (.slice Ao40 y205.length co40), v212) _ ⟨hHeld, (by (with_reducible repeat (first | apply Kd.R_alloc | apply Kd.R_drewN | apply Kd.R_drew)); exact Kd.R_mono HO201.out (fun _ hk => ⟨hk.1.1, ⟨hk.1.2.1, ⟨hk.2, ⟨hk.1.2.2.1, hk.1.2.2.2⟩⟩⟩⟩)), (by (with_reducible repeat (first | apply Kd.R_alloc | apply Kd.R_drewN | apply Kd.R_drew)); exact Kd.R_mono HO204.out (fun _ hk => ⟨hk.1.1, ⟨hk.1.2.1, ⟨hk.2, ⟨hk.1.2.2.1, hk.1.2.2.2⟩⟩⟩⟩)), (by (with_reducible repeat (first | apply Kd.R_alloc | apply Kd.R_drewN | apply Kd.R_drew)); exact Kd.R_mono HO207.out (fun _ hk => ⟨hk.1.1, ⟨hk.1.2.1, ⟨hk.2, ⟨hk.1.2.2.1, hk.1.2.2.2⟩⟩⟩⟩)), (by (with_reducible repeat (first | apply Kd.R_alloc | apply Kd.R_drewN | apply Kd.R_drew)); exact Kd.R_mono HO213.out (fun _ hk => ⟨hk.1.1.2, ⟨hk.1.2, ⟨hk.2, ⟨hk.1.1.1.1.2, hk.1.1.1.2⟩⟩⟩⟩)), (by (with_reducible repeat (first | apply Kd.R_alloc | apply Kd.R_drewN | apply Kd.R_drew)); exact Kd.R_mono HO_196001.out (fun _ hk => ⟨hk.1.1, ⟨hk.1.2.1, ⟨hk.1.2.2.1, ⟨hk.2, hk.1.2.2.2⟩⟩⟩⟩)), a114_, a89_, a90_, a91_, a88_⟩)
             ·rintro ⟨v200, v203, v206, v212⟩ w40 ⟨hS_, h0_, h1_, h2_, h3_, h4_, h5_, h6_, h7_, h8_, h9_⟩
              have n0_ : Aside0 (Kd.R (Kd.int .i16) 38 w40 w.heap.size (fun k_ => some k_ ≠ (v203 : Value).ownBlock ∧ some k_ ≠ (v206 : Value).ownBlock ∧ some k_ ≠ (v212 : Value).ownBlock ∧ nbk k_ Ao29 x196001_1.length co29 ∧ nbk k_ Ao30 x196002_1.length co30) v200 y199) := ⟨h0_⟩
              have n1_ : Aside0 (Kd.R (Kd.int .i16) 38 w40 w.heap.size (fun k_ => some k_ ≠ (v200 : Value).ownBlock ∧ some k_ ≠ (v206 : Value).ownBlock ∧ some k_ ≠ (v212 : Value).ownBlock ∧ nbk k_ Ao29 x196001_1.length co29 ∧ nbk k_ Ao30 x196002_1.length co30) v203 y202) := ⟨h1_⟩
              have n2_ : Aside0 (Kd.R (Kd.int .i16) 38 w40 w.heap.size (fun k_ => some k_ ≠ (v200 : Value).ownBlock ∧ some k_ ≠ (v203 : Value).ownBlock ∧ some k_ ≠ (v212 : Value).ownBlock ∧ nbk k_ Ao29 x196001_1.length co29 ∧ nbk k_ Ao30 x196002_1.length co30) v206 y205) := ⟨h2_⟩
              have n3_ : Aside0 (Kd.R (Kd.int .i16) 38 w40 w.heap.size (fun k_ => some k_ ≠ (v200 : Value).ownBlock ∧ some k_ ≠ (v203 : Value).ownBlock ∧ some k_ ≠ (v206 : Value).ownBlock ∧ nbk k_ Ao29 x196001_1.length co29 ∧ nbk k_ Ao30 x196002_1.length co30) v212 y211) := ⟨h3_⟩
              have n4_ : Aside0 (Kd.R (Kd.int .i16) 38 w40 w.heap.size (fun k_ => some k_ ≠ (v200 : Value).ownBlock ∧ some k_ ≠ (v203 : Value).ownBlock ∧ some k_ ≠ (v206 : Value).ownBlock ∧ some k_ ≠ (v212 : Value).ownBlock ∧ nbk k_ Ao30 x196002_1.length co30) (.slice Ao29 x196001_1.length co29) x196001_1) := ⟨h4_⟩
              have n5_ : Aside0 (Kd.R (Kd.int .i16) 38 w40 w.heap.size (fun k_ => some k_ ≠ (v200 : Value).ownBlock ∧ some k_ ≠ (v203 : Value).ownBlock ∧ some k_ ≠ (v206 : Value).ownBlock ∧ some k_ ≠ (v212 : Value).ownBlock ∧ nbk k_ Ao29 x196001_1.length co29) (.slice Ao30 x196002_1.length co30) x196002_1) := ⟨h5_⟩
              have n6_ : Aside0 (w40.heap[gb194]? = some (.cells #[.slice none 0 0, .slice none 0 0, .slice none 0 0] 29 (0, 0))) := ⟨h6_⟩
              have n7_ : Aside0 (w40.heap[gb195]? = some (.cells #[.slice Ao28 x196000_1.length co28, .slice Ao29 x196001_1.length co29, .slice Ao30 x196002_1.length co30] 29 (0, 0))) := ⟨h7_⟩
              have n8_ : Aside0 (w40.heap[gb196]? = some (.cells #[.int .i16 x197000_8, .int .i16 x197001_8, .bool x197002_8] 118 (0, 0))) := ⟨h8_⟩
              have n9_ : Aside0 (Below w.heap.size w w40) := ⟨h9_⟩
              clear HO_196000 HO_196001 HO_196002 BK194 BK195 BK196 HB h0_ h1_ h2_ h3_ h4_ h5_ h6_ h7_ h8_ h9_; have HO201 := n0_; have HO204 := n1_; have HO207 := n2_; have HO213 := n3_; have HO_196001 := n4_; have HO_196002 := n5_; have BK194 := n6_; have BK195 := n7_; have BK196 := n8_; have HB := n9_; clear n0_ n1_ n2_ n3_ n4_ n5_ n6_ n7_ n8_ n9_
              have hHeld : w40.cell? ⟨gb195, 0, none⟩ = some (.slice Ao28 x196000_1.length co28) ∧ w40.cell? ⟨gb195, 1, none⟩ = some (.slice Ao29 x196001_1.length co29) ∧ w40.cell? ⟨gb195, 2, none⟩ = some (.slice Ao30 x196002_1.length co30) ∧ w40.cell? ⟨gb196, 0, none⟩ = some (.int .i16 x197000_8) ∧ w40.cell? ⟨gb196, 1, none⟩ = some (.int .i16 x197001_8) ∧ w40.cell? ⟨gb196, 2, none⟩ = some (.bool x197002_8) := hS_
              obtain ⟨Ao42, co42, eo42⟩ := Kd.R_slice HO207.out
              (first | subst eo42 | (injection eo42 with f1_ f2_ f3_; have f4_ := f1_.symm; have f5_ := f3_.symm; clear f1_ f2_ f3_; subst f4_; subst f5_))
              refine norm_ (a' := ?_) ?_ ?_; rotate_left
              ·simp only [putAll, Act.put, List.setIfInBounds_toArray, List.set_cons_zero, List.set_cons_succ]
               rfl
              refine one_ (i := 13) (N := some 38) #[true, true, true, true, true, true, true, true, true, true, true, true, true, true, true, true, true, true, false, true, false, false, false, false, false] rfl rfl (one_of HT_.out (by kernel_rfl)) (by decide) (fun K hK => ?_)
              refine Kd.R_append_rows_step (Kd.int .i16) (w0 := w) w.heap.size (by rfl) (.tmp 33) (.tmp 37) 27 38 (.int .i16 0) 2 rfl Try.underlying27 info38 rfl (by decide) (by omega) (.slice Ao29 x196001_1.length co29) x196001_1 y205 _ _ _ (fun k_ => nbk k_ Ao30 x196002_1.length co30 ∧ some k_ ≠ (v200 : Value).ownBlock ∧ some k_ ≠ (v203 : Value).ownBlock ∧ nbk k_ Ao42 y205.length co42 ∧ some k_ ≠ (v212 : Value).ownBlock) (fun _ => False) rfl rfl ?aO ?aR (fun _ _ h => h) (fun _ h => h.elim) ?aF ?aB ?aS ?aL ?_
              (case aR => exact a147_); (case aB => exact a88_)
              (case aF => exact (fun k_ hk => ⟨Kd.fresh' (Kd.R_lt a93_) k_ hk, Kd.fresh' (Kd.R_lt a96_) k_ hk, Kd.fresh' (Kd.R_lt a99_) k_ hk, Kd.fresh' (Kd.R_lt a97_) k_ hk, Kd.fresh' (Kd.R_lt a98_) k_ hk⟩))
              (case aO => exact (by (with_reducible repeat (first | apply Kd.R_alloc | apply Kd.R_drewN | apply Kd.R_drew)); exact Kd.R_mono HO_196001.out (fun _ hk => ⟨hk.2.2.2.2, ⟨hk.1, ⟨hk.2.1, ⟨hk.2.2.1, hk.2.2.2.1⟩⟩⟩⟩)))
              (case aS => exact (below_size a88_))
              (case aL => have := LMc26.out; omega)
              intro v209 w41 ho hb hg hat
              rw [← Ny208.out] at ho
              have n0_ := Aside0.mk (Kd.R_after (ok := (fun k_ => some k_ ≠ (v200 : Value).ownBlock ∧ some k_ ≠ (v203 : Value).ownBlock ∧ nbk k_ Ao42 y205.length co42 ∧ some k_ ≠ (v212 : Value).ownBlock)) (by (with_reducible repeat (first | apply Kd.R_alloc | apply Kd.R_drewN | apply Kd.R_drew)); exact Kd.R_mono HO_196002.out (fun _ hk => ⟨⟨hk.1, ⟨hk.2.1, ⟨hk.2.2.1, hk.2.2.2.1⟩⟩⟩, hk.2.2.2.2⟩)) hg hat)
              have n1_ := Aside0.mk (blk_grown (g := gb194) (o := .cells #[.slice none 0 0, .slice none 0 0, .slice none 0 0] 29 (0, 0)) a89_ hg (Kd.R_ne HO_196001.out BK194.out (by decide)))
              have n2_ := Aside0.mk (blk_grown (g := gb195) (o := .cells #[.slice Ao28 x196000_1.length co28, .slice Ao29 x196001_1.length co29, .slice Ao30 x196002_1.length co30] 29 (0, 0)) a90_ hg (Kd.R_ne HO_196001.out BK195.out (by decide)))
              have n3_ := Aside0.mk (blk_grown (g := gb196) (o := .cells #[.int .i16 x197000_8, .int .i16 x197001_8, .bool x197002_8] 118 (0, 0)) a91_ hg (Kd.R_ne HO_196001.out BK196.out (by decide)))
              have n4_ := Aside0.mk (Kd.R_after (ok := (fun k_ => nbk k_ Ao30 x196002_1.length co30 ∧ some k_ ≠ (v203 : Value).ownBlock ∧ nbk k_ Ao42 y205.length co42 ∧ some k_ ≠ (v212 : Value).ownBlock)) (by (with_reducible repeat (first | apply Kd.R_alloc | apply Kd.R_drewN | apply Kd.R_drew)); exact Kd.R_mono HO201.out (fun _ hk => ⟨⟨hk.2.2.2.2, ⟨hk.1, ⟨hk.2.1, hk.2.2.1⟩⟩⟩, hk.2.2.2.1⟩)) hg hat)
              have n5_ := Aside0.mk (Kd.R_after (ok := (fun k_ => nbk k_ Ao30 x196002_1.length co30 ∧ some k_ ≠ (v200 : Value).ownBlock ∧ nbk k_ Ao42 y205.length co42 ∧ some k_ ≠ (v212 : Value).ownBlock)) (by (with_reducible repeat (first | apply Kd.R_alloc | apply Kd.R_drewN | apply Kd.R_drew)); exact Kd.R_mono HO204.out (fun _ hk => ⟨⟨hk.2.2.2.2, ⟨hk.1, ⟨hk.2.1, hk.2.2.1⟩⟩⟩, hk.2.2.2.1⟩)) hg hat)
              have n6_ := Aside0.mk (Kd.R_after (ok := (fun k_ => nbk k_ Ao30 x196002_1.length co30 ∧ some k_ ≠ (v200 : Value).ownBlock ∧ some k_ ≠ (v203 : Value).ownBlock ∧ some k_ ≠ (v212 : Value).ownBlock)) (by (with_reducible repeat (first | apply Kd.R_alloc | apply Kd.R_drewN | apply Kd.R_drew)); exact Kd.R_mono HO207.out (fun _ hk => ⟨⟨hk.2.2.2.2, ⟨hk.1, ⟨hk.2.1, hk.2.2.1⟩⟩⟩, hk.2.2.2.1⟩)) hg hat)
              have n7_ := Aside0.mk (Kd.R_after (ok := (fun k_ => nbk k_ Ao30 x196002_1.length co30 ∧ some k_ ≠ (v200 : Value).ownBlock ∧ some k_ ≠ (v203 : Value).ownBlock ∧ nbk k_ Ao42 y205.length co42)) (by (with_reducible repeat (first | apply Kd.R_alloc | apply Kd.R_drewN | apply Kd.R_drew)); exact Kd.R_mono HO213.out (fun _ hk => ⟨⟨hk.2.2.2.2, ⟨hk.1, ⟨hk.2.1, hk.2.2.1⟩⟩⟩, hk.2.2.2.1⟩)) hg hat)
              have n8_ := Aside0.mk (hb)
              have n9_ := Aside0.mk (ho)
              clear HO_196002 BK194 BK195 BK196 HO201 HO204 HO207 HO213 HB HO_196001; have HO_196002 := n0_; have BK194 := n1_; have BK195 := n2_; have BK196 := n3_; have HO201 := n4_; have HO204 := n5_; have HO207 := n6_; have HO213 := n7_; have HB := n8_; have HO210 := n9_; clear n0_ n1_ n2_ n3_ n4_ n5_ n6_ n7_ n8_ n9_ ho hb hg hat
              refine hK.out _ _ ⟨(blk_cell BK195.out 0).trans rfl, (blk_cell BK195.out 1).trans rfl, (blk_cell BK195.out 2).trans rfl, (blk_cell BK196.out 0).trans rfl, (blk_cell BK196.out 1).trans rfl, (blk_cell BK196.out 2).trans rfl⟩ (fun hHeld => ?_)
              clear hK K; refine norm_ (a' := ?_) ?_ ?_; rotate_left
              ·show Act.put _ (some 38) _ = _
               simp only [Act.put, List.setIfInBounds_toArray, List.set_cons_zero, List.set_cons_succ, i64_w, i32_w]
               rfl
              exact norm_ a92_ (hJ5_6_12_13_17 (v200, v203, .slice Ao42 y205.length co42, v209, v212) _ ⟨hHeld, (by (with_reducible repeat (first | apply Kd.R_alloc | apply Kd.R_drewN | apply Kd.R_drew)); exact Kd.R_mono HO201.out (fun _ hk => ⟨hk.1.2.1, ⟨hk.1.2.2.1, ⟨hk.2, ⟨hk.1.2.2.2, hk.1.1⟩⟩⟩⟩)), (by (with_reducible repeat (first | apply Kd.R_alloc | apply Kd.R_drewN | apply Kd.R_drew)); exact Kd.R_mono HO204.out (fun _ hk => ⟨hk.1.2.1, ⟨hk.1.2.2.1, ⟨hk.2, ⟨hk.1.2.2.2, hk.1.1⟩⟩⟩⟩)), (by (with_reducible repeat (first | apply Kd.R_alloc | apply Kd.R_drewN | apply Kd.R_drew)); exact Kd.R_mono HO207.out (fun _ hk => ⟨hk.1.2.1, ⟨hk.1.2.2.1, ⟨hk.2, ⟨hk.1.2.2.2, hk.1.1⟩⟩⟩⟩)), (by (with_reducible repeat (first | apply Kd.R_alloc | apply Kd.R_drewN | apply Kd.R_drew)); exact Kd.R_mono HO210.out (fun _ hk => ⟨hk.2.1, ⟨hk.2.2.1, ⟨hk.2.2.2.1, ⟨hk.2.2.2.2, hk.1⟩⟩⟩⟩)), (by (with_reducible repeat (first | apply Kd.R_alloc | apply Kd.R_drewN | apply Kd.R_drew)); exact Kd.R_mono HO213.out (fun _ hk => ⟨hk.1.2.1, ⟨hk.1.2.2.1, ⟨hk.1.2.2.2, ⟨hk.2, hk.1.1⟩⟩⟩⟩)), a114_, a89_, a90_, a91_, a88_⟩)
            ·rintro ⟨v200, v203, v206, v209⟩ w40 ⟨hS_, h0_, h1_, h2_, h3_, h4_, h5_, h6_, h7_, h8_⟩
             have n0_ : Aside0 (Kd.R (Kd.int .i16) 38 w40 w.heap.size (fun k_ => some k_ ≠ (v203 : Value).ownBlock ∧ some k_ ≠ (v206 : Value).ownBlock ∧ some k_ ≠ (v209 : Value).ownBlock ∧ nbk k_ Ao30 x196002_1.length co30) v200 y199) := ⟨h0_⟩
             have n1_ : Aside0 (Kd.R (Kd.int .i16) 38 w40 w.heap.size (fun k_ => some k_ ≠ (v200 : Value).ownBlock ∧ some k_ ≠ (v206 : Value).ownBlock ∧ some k_ ≠ (v209 : Value).ownBlock ∧ nbk k_ Ao30 x196002_1.length co30) v203 y202) := ⟨h1_⟩
             have n2_ : Aside0 (Kd.R (Kd.int .i16) 38 w40 w.heap.size (fun k_ => some k_ ≠ (v200 : Value).ownBlock ∧ some k_ ≠ (v203 : Value).ownBlock ∧ some k_ ≠ (v209 : Value).ownBlock ∧ nbk k_ Ao30 x196002_1.length co30) v206 y205) := ⟨h2_⟩
             have n3_ : Aside0 (Kd.R (Kd.int .i16) 38 w40 w.heap.size (fun k_ => some k_ ≠ (v200 : Value).ownBlock ∧ some k_ ≠ (v203 : Value).ownBlock ∧ some k_ ≠ (v206 : Value).ownBlock ∧ nbk k_ Ao30 x196002_1.length co30) v209 y208) := ⟨h3_⟩
             have n4_ : Aside0 (Kd.R (Kd.int .i16) 38 w40 w.heap.size (fun k_ => some k_ ≠ (v200 : Value).ownBlock ∧ some k_ ≠ (v203 : Value).ownBlock ∧ some k_ ≠ (v206 : Value).ownBlock ∧ some k_ ≠ (v209 : Value).ownBlock) (.slice Ao30 x196002_1.length co30) x196002_1) := ⟨h4_⟩
             have n5_ : Aside0 (w40.heap[gb194]? = some (.cells #[.slice none 0 0, .slice none 0 0, .slice none 0 0] 29 (0, 0))) := ⟨h5_⟩
             have n6_ : Aside0 (w40.heap[gb195]? = some (.cells #[.slice Ao28 x196000_1.length co28, .slice Ao29 x196001_1.length co29, .slice Ao30 x196002_1.length co30] 29 (0, 0))) := ⟨h6_⟩
             have n7_ : Aside0 (w40.heap[gb196]? = some (.cells #[.int .i16 x197000_8, .int .i16 x197001_8, .bool x197002_8] 118 (0, 0))) := ⟨h7_⟩
             have n8_ : Aside0 (Below w.heap.size w w40) := ⟨h8_⟩
             clear HO_196000 HO_196001 HO_196002 BK194 BK195 BK196 HB h0_ h1_ h2_ h3_ h4_ h5_ h6_ h7_ h8_; have HO201 := n0_; have HO204 := n1_; have HO207 := n2_; have HO210 := n3_; have HO_196002 := n4_; have BK194 := n5_; have BK195 := n6_; have BK196 := n7_; have HB := n8_; clear n0_ n1_ n2_ n3_ n4_ n5_ n6_ n7_ n8_
             have hHeld : w40.cell? ⟨gb195, 0, none⟩ = some (.slice Ao28 x196000_1.length co28) ∧ w40.cell? ⟨gb195, 1, none⟩ = some (.slice Ao29 x196001_1.length co29) ∧ w40.cell? ⟨gb195, 2, none⟩ = some (.slice Ao30 x196002_1.length co30) ∧ w40.cell? ⟨gb196, 0, none⟩ = some (.int .i16 x197000_8) ∧ w40.cell? ⟨gb196, 1, none⟩ = some (.int .i16 x197001_8) ∧ w40.cell? ⟨gb196, 2, none⟩ = some (.bool x197002_8) := hS_
             refine norm_ (a' := ?_) ?_ ?_; rotate_left
             ·simp only [putAll, Act.put, List.setIfInBounds_toArray, List.set_cons_zero, List.set_cons_succ]
              rfl
             refine one_ (i := 17) (N := some 42) #[true, true, true, true, true, true, true, true, true, true, true, true, true, true, true, true, true, true, false, true, false, false, false, false, false] rfl rfl (one_of HT_.out (by kernel_rfl)) (by decide) (fun K hK => ?_)
             refine Kd.R_lit_step (Kd.int .i16) _ 38 ?hg (N := 42) ?hd (xs := ([x8_19] : List Int)) (inner := [.int .i16 x8_19]) (ok := fun _ => True) (okp := fun _ => True) ?hr ?hp (fun _ hk => hk) trivial (Below.refl _ _) (Nat.le_refl _) (by simp) ?_; (case hd => rfl); (case hg => rfl); (case hr => exact a142_); (case hp => exact a144_)
             intro v212 w41 ho42 hb hg_ hnew_
             clear hg_ hnew_
             (first | rw [← Ny211.out] at ho42 | (simp only [Int.reduceToNat] at ho42; rw [← Ny211.out] at ho42))
             have n0_ := Aside0.mk (Kd.R_elder' a93_ (Kd.R_base ho42) hb)
             have n1_ := Aside0.mk (Kd.R_elder' a96_ (Kd.R_base ho42) hb)
             have n2_ := Aside0.mk (Kd.R_elder' a99_ (Kd.R_base ho42) hb)
             have n3_ := Aside0.mk (Kd.R_elder' a97_ (Kd.R_base ho42) hb)
             have n4_ := Aside0.mk (Kd.R_elder' a137_ (Kd.R_base ho42) hb)
             have n5_ := Aside0.mk (Kd.R_lower (Kd.R_new' (Kd.R_new' (Kd.R_new' (Kd.R_new' (Kd.R_new' ho42 (Kd.R_lt a93_)) (Kd.R_lt a96_)) (Kd.R_lt a99_)) (Kd.R_lt a97_)) (Kd.R_lt a137_)) (below_size a88_))
             have n6_ := Aside0.mk (blk_below (g := gb194) a89_ hb)
             have n7_ := Aside0.mk (blk_below (g := gb195) a90_ hb)
             have n8_ := Aside0.mk (blk_below (g := gb196) a91_ hb)
             have n9_ := Aside0.mk (below_step a88_ hb)
             clear HO_196002 HO201 HO204 HO207 HO210 BK194 BK195 BK196 HB; have HO_196002 := n0_; have HO201 := n1_; have HO204 := n2_; have HO207 := n3_; have HO210 := n4_; have HO213 := n5_; have BK194 := n6_; have BK195 := n7_; have BK196 := n8_; have HB := n9_; clear n0_ n1_ n2_ n3_ n4_ n5_ n6_ n7_ n8_ n9_ hb ho42
             refine hK.out _ _ ⟨(blk_cell BK195.out 0).trans rfl, (blk_cell BK195.out 1).trans rfl, (blk_cell BK195.out 2).trans rfl, (blk_cell BK196.out 0).trans rfl, (blk_cell BK196.out 1).trans rfl, (blk_cell BK196.out 2).trans rfl⟩ (fun hHeld => ?_)
             clear hK K; refine norm_ (a' := ?_) ?_ ?_; rotate_left
             ·show Act.put _ (some 42) _ = _
              simp only [Act.put, List.setIfInBounds_toArray, List.set_cons_zero, List.set_cons_succ, i64_w, i32_w]
              rfl
             exact norm_ a92_ (hJ5_6_12_13_17 (v200, v203, v206, v209, v212) _ ⟨hHeld, (by (with_reducible repeat (first | apply Kd.R_alloc | apply Kd.R_drewN | apply Kd.R_drew)); exact Kd.R_mono HO201.out (fun _ hk => ⟨hk.1.1, ⟨hk.1.2.1, ⟨hk.1.2.2.1, ⟨hk.2, hk.1.2.2.2⟩⟩⟩⟩)), (by (with_reducible repeat (first | apply Kd.R_alloc | apply Kd.R_drewN | apply Kd.R_drew)); exact Kd.R_mono HO204.out (fun _ hk => ⟨hk.1.1, ⟨hk.1.2.1, ⟨hk.1.2.2.1, ⟨hk.2, hk.1.2.2.2⟩⟩⟩⟩)), (by (with_reducible repeat (first | apply Kd.R_alloc | apply Kd.R_drewN | apply Kd.R_drew)); exact Kd.R_mono HO207.out (fun _ hk => ⟨hk.1.1, ⟨hk.1.2.1, ⟨hk.1.2.2.1, ⟨hk.2, hk.1.2.2.2⟩⟩⟩⟩)), (by (with_reducible repeat (first | apply Kd.R_alloc | apply Kd.R_drewN | apply Kd.R_drew)); exact Kd.R_mono HO210.out (fun _ hk => ⟨hk.1.1, ⟨hk.1.2.1, ⟨hk.1.2.2.1, ⟨hk.2, hk.1.2.2.2⟩⟩⟩⟩)), (by (with_reducible repeat (first | apply Kd.R_alloc | apply Kd.R_drewN | apply Kd.R_drew)); exact Kd.R_mono HO213.out (fun _ hk => ⟨hk.1.1.1.2, ⟨hk.1.1.2, ⟨hk.1.2, ⟨hk.2, hk.1.1.1.1.2⟩⟩⟩⟩)), (by (with_reducible repeat (first | apply Kd.R_alloc | apply Kd.R_drewN | apply Kd.R_drew)); exact Kd.R_mono HO_196002.out (fun _ hk => ⟨hk.1.1, ⟨hk.1.2.1, ⟨hk.1.2.2.1, ⟨hk.1.2.2.2, hk.2⟩⟩⟩⟩)), a89_, a90_, a91_, a88_⟩)
           rintro ⟨v200, v203, v206, v209, v212⟩ w42 ⟨hS_, h0_, h1_, h2_, h3_, h4_, h5_, h6_, h7_, h8_, h9_⟩
           have n0_ : Aside0 (Kd.R (Kd.int .i16) 38 w42 w.heap.size (fun k_ => some k_ ≠ (v203 : Value).ownBlock ∧ some k_ ≠ (v206 : Value).ownBlock ∧ some k_ ≠ (v209 : Value).ownBlock ∧ some k_ ≠ (v212 : Value).ownBlock ∧ nbk k_ Ao30 x196002_1.length co30) v200 y199) := ⟨h0_⟩
           have n1_ : Aside0 (Kd.R (Kd.int .i16) 38 w42 w.heap.size (fun k_ => some k_ ≠ (v200 : Value).ownBlock ∧ some k_ ≠ (v206 : Value).ownBlock ∧ some k_ ≠ (v209 : Value).ownBlock ∧ some k_ ≠ (v212 : Value).ownBlock ∧ nbk k_ Ao30 x196002_1.length co30) v203 y202) := ⟨h1_⟩
           have n2_ : Aside0 (Kd.R (Kd.int .i16) 38 w42 w.heap.size (fun k_ => some k_ ≠ (v200 : Value).ownBlock ∧ some k_ ≠ (v203 : Value).ownBlock ∧ some k_ ≠ (v209 : Value).ownBlock ∧ some k_ ≠ (v212 : Value).ownBlock ∧ nbk k_ Ao30 x196002_1.length co30) v206 y205) := ⟨h2_⟩
           have n3_ : Aside0 (Kd.R (Kd.int .i16) 38 w42 w.heap.size (fun k_ => some k_ ≠ (v200 : Value).ownBlock ∧ some k_ ≠ (v203 : Value).ownBlock ∧ some k_ ≠ (v206 : Value).ownBlock ∧ some k_ ≠ (v212 : Value).ownBlock ∧ nbk k_ Ao30 x196002_1.length co30) v209 y208) := ⟨h3_⟩
           have n4_ : Aside0 (Kd.R (Kd.int .i16) 38 w42 w.heap.size (fun k_ => some k_ ≠ (v200 : Value).ownBlock ∧ some k_ ≠ (v203 : Value).ownBlock ∧ some k_ ≠ (v206 : Value).ownBlock ∧ some k_ ≠ (v209 : Value).ownBlock ∧ nbk k_ Ao30 x196002_1.length co30) v212 y211) := ⟨h4_⟩
           have n5_ : Aside0 (Kd.R (Kd.int .i16) 38 w42 w.heap.size (fun k_ => some k_ ≠ (v200 : Value).ownBlock ∧ some k_ ≠ (v203 : Value).ownBlock ∧ some k_ ≠ (v206 : Value).ownBlock ∧ some k_ ≠ (v209 : Value).ownBlock ∧ some k_ ≠ (v212 : Value).ownBlock) (.slice Ao30 x196002_1.length co30) x196002_1) := ⟨h5_⟩
           have n6_ : Aside0 (w42.heap[gb194]? = some (.cells #[.slice none 0 0, .slice none 0 0, .slice none 0 0] 29 (0, 0))) := ⟨h6_⟩
           have n7_ : Aside0 (w42.heap[gb195]? = some (.cells #[.slice Ao28 x196000_1.length co28, .slice Ao29 x196001_1.length co29, .slice Ao30 x196002_1.length co30] 29 (0, 0))) := ⟨h7_⟩
           have n8_ : Aside0 (w42.heap[gb196]? = some (.cells #[.int .i16 x197000_8, .int .i16 x197001_8, .bool x197002_8] 118 (0, 0))) := ⟨h8_⟩
           have n9_ : Aside0 (Below w.heap.size w w42) := ⟨h9_⟩
           clear HO_196000 HO_196001 HO_196002 BK194 BK195 BK196 HB h0_ h1_ h2_ h3_ h4_ h5_ h6_ h7_ h8_ h9_; have HO201 := n0_; have HO204 := n1_; have HO207 := n2_; have HO210 := n3_; have HO213 := n4_; have HO_196002 := n5_; have BK194 := n6_; have BK195 := n7_; have BK196 := n8_; have HB := n9_; clear n0_ n1_ n2_ n3_ n4_ n5_ n6_ n7_ n8_ n9_
           have hHeld : w42.cell? ⟨gb195, 0, none⟩ = some (.slice Ao28 x196000_1.length co28) ∧ w42.cell? ⟨gb195, 1, none⟩ = some (.slice Ao29 x196001_1.length co29) ∧ w42.cell? ⟨gb195, 2, none⟩ = some (.slice Ao30 x196002_1.length co30) ∧ w42.cell? ⟨gb196, 0, none⟩ = some (.int .i16 x197000_8) ∧ w42.cell? ⟨gb196, 1, none⟩ = some (.int .i16 x197001_8) ∧ w42.cell? ⟨gb196, 2, none⟩ = some (.bool x197002_8) := hS_
           obtain ⟨Ao44, co44, eo44⟩ := Kd.R_slice HO213.out
           (first | subst eo44 | (injection eo44 with f1_ f2_ f3_; have f4_ := f1_.symm; have f5_ := f3_.symm; clear f1_ f2_ f3_; subst f4_; subst f5_))
           refine norm_ (a' := ?_) ?_ ?_; rotate_left
           ·simp only [putAll, Act.put, List.setIfInBounds_toArray, List.set_cons_zero, List.set_cons_succ]
            rfl
           refine one_ (i := 18) (N := some 43) #[true, true, true, true, true, true, true, true, true, true, true, true, true, true, true, true, true, true, true, true, false, false, false, false, false] rfl rfl (one_of HT_.out (by kernel_rfl)) (by decide) (fun K hK => ?_)
           refine Kd.R_append_rows_step (Kd.int .i16) (w0 := w) w.heap.size (by rfl) (.tmp 40) (.tmp 42) 27 38 (.int .i16 0) 2 rfl Try.underlying27 info38 rfl (by decide) (by omega) (.slice Ao30 x196002_1.length co30) x196002_1 y211 _ _ _ (fun k_ => some k_ ≠ (v200 : Value).ownBlock ∧ some k_ ≠ (v203 : Value).ownBlock ∧ some k_ ≠ (v206 : Value).ownBlock ∧ some k_ ≠ (v209 : Value).ownBlock ∧ nbk k_ Ao44 y211.length co44) (fun _ => False) rfl rfl ?aO ?aR (fun _ _ h => h) (fun _ h => h.elim) ?aF ?aB ?aS ?aL ?_
           (case aR => repeat (first | exact (Kd.R_reads' HO213.out).2.2 | (with_reducible refine Kd.C_alloc ?_ _) | (with_reducible refine Kd.C_drewN ?_ _) | (with_reducible refine Kd.C_drew ?_)))
           (case aB => exact a88_)
           (case aF => exact (fun k_ hk => ⟨Kd.fresh' (Kd.R_lt a96_) k_ hk, Kd.fresh' (Kd.R_lt a99_) k_ hk, Kd.fresh' (Kd.R_lt a97_) k_ hk, Kd.fresh' (Kd.R_lt a137_) k_ hk, Kd.fresh' (Kd.R_lt a98_) k_ hk⟩))
           (case aO => exact a93_)
           (case aS => exact (below_size a88_))
           (case aL => have := LMc27.out; omega)
           intro v215 w43 ho hb hg hat
           rw [← Ny214.out] at ho
           have n0_ := Aside0.mk (blk_grown (g := gb194) (o := .cells #[.slice none 0 0, .slice none 0 0, .slice none 0 0] 29 (0, 0)) a89_ hg (Kd.R_ne HO_196002.out BK194.out (by decide)))
           have n1_ := Aside0.mk (blk_grown (g := gb195) (o := .cells #[.slice Ao28 x196000_1.length co28, .slice Ao29 x196001_1.length co29, .slice Ao30 x196002_1.length co30] 29 (0, 0)) a90_ hg (Kd.R_ne HO_196002.out BK195.out (by decide)))
           have n2_ := Aside0.mk (blk_grown (g := gb196) (o := .cells #[.int .i16 x197000_8, .int .i16 x197001_8, .bool x197002_8] 118 (0, 0)) a91_ hg (Kd.R_ne HO_196002.out BK196.out (by decide)))
           have n3_ := Aside0.mk (Kd.R_after (ok := (fun k_ => some k_ ≠ (v203 : Value).ownBlock ∧ some k_ ≠ (v206 : Value).ownBlock ∧ some k_ ≠ (v209 : Value).ownBlock ∧ nbk k_ Ao44 y211.length co44)) (by (with_reducible repeat (first | apply Kd.R_alloc | apply Kd.R_drewN | apply Kd.R_drew)); exact Kd.R_mono HO201.out (fun _ hk => ⟨⟨hk.1, ⟨hk.2.1, ⟨hk.2.2.1, hk.2.2.2.1⟩⟩⟩, hk.2.2.2.2⟩)) hg hat)
           have n4_ := Aside0.mk (Kd.R_after (ok := (fun k_ => some k_ ≠ (v200 : Value).ownBlock ∧ some k_ ≠ (v206 : Value).ownBlock ∧ some k_ ≠ (v209 : Value).ownBlock ∧ nbk k_ Ao44 y211.length co44)) (by (with_reducible repeat (first | apply Kd.R_alloc | apply Kd.R_drewN | apply Kd.R_drew)); exact Kd.R_mono HO204.out (fun _ hk => ⟨⟨hk.1, ⟨hk.2.1, ⟨hk.2.2.1, hk.2.2.2.1⟩⟩⟩, hk.2.2.2.2⟩)) hg hat)
           have n5_ := Aside0.mk (Kd.R_after (ok := (fun k_ => some k_ ≠ (v200 : Value).ownBlock ∧ some k_ ≠ (v203 : Value).ownBlock ∧ some k_ ≠ (v209 : Value).ownBlock ∧ nbk k_ Ao44 y211.length co44)) (by (with_reducible repeat (first | apply Kd.R_alloc | apply Kd.R_drewN | apply Kd.R_drew)); exact Kd.R_mono HO207.out (fun _ hk => ⟨⟨hk.1, ⟨hk.2.1, ⟨hk.2.2.1, hk.2.2.2.1⟩⟩⟩, hk.2.2.2.2⟩)) hg hat)
           have n6_ := Aside0.mk (Kd.R_after (ok := (fun k_ => some k_ ≠ (v200 : Value).ownBlock ∧ some k_ ≠ (v203 : Value).ownBlock ∧ some k_ ≠ (v206 : Value).ownBlock ∧ nbk k_ Ao44 y211.length co44)) (by (with_reducible repeat (first | apply Kd.R_alloc | apply Kd.R_drewN | apply Kd.R_drew)); exact Kd.R_mono HO210.out (fun _ hk => ⟨⟨hk.1, ⟨hk.2.1, ⟨hk.2.2.1, hk.2.2.2.1⟩⟩⟩, hk.2.2.2.2⟩)) hg hat)
           have n7_ := Aside0.mk (Kd.R_after (ok := (fun k_ => some k_ ≠ (v200 : Value).ownBlock ∧ some k_ ≠ (v203 : Value).ownBlock ∧ some k_ ≠ (v206 : Value).ownBlock ∧ some k_ ≠ (v209 : Value).ownBlock)) (by (with_reducible repeat (first | apply Kd.R_alloc | apply Kd.R_drewN | apply Kd.R_drew)); exact Kd.R_mono HO213.out (fun _ hk => ⟨⟨hk.1, ⟨hk.2.1, ⟨hk.2.2.1, hk.2.2.2.1⟩⟩⟩, hk.2.2.2.2⟩)) hg hat)
           have n8_ := Aside0.mk (hb)
           have n9_ := Aside0.mk (ho)
           clear BK194 BK195 BK196 HO201 HO204 HO207 HO210 HO213 HB HO_196002; have BK194 := n0_; have BK195 := n1_; have BK196 := n2_; have HO201 := n3_; have HO204 := n4_; have HO207 := n5_; have HO210 := n6_; have HO213 := n7_; have HB := n8_; have HO216 := n9_; clear n0_ n1_ n2_ n3_ n4_ n5_ n6_ n7_ n8_ n9_ ho hb hg hat
           obtain ⟨Ao45, co45, eo45⟩ := Kd.R_slice HO204.out
           (first | subst eo45 | (injection eo45 with f1_ f2_ f3_; have f4_ := f1_.symm; have f5_ := f3_.symm; clear f1_ f2_ f3_; subst f4_; subst f5_))
           obtain ⟨Ao47, co47, eo47⟩ := Kd.R_slice HO210.out
           (first | subst eo47 | (injection eo47 with f1_ f2_ f3_; have f4_ := f1_.symm; have f5_ := f3_.symm; clear f1_ f2_ f3_; subst f4_; subst f5_))
           obtain ⟨Ao49, co49, eo49⟩ := Kd.R_slice HO216.out
           (first | subst eo49 | (injection eo49 with f1_ f2_ f3_; have f4_ := f1_.symm; have f5_ := f3_.symm; clear f1_ f2_ f3_; subst f4_; subst f5_))
           refine hK.out _ _ ⟨(blk_cell BK195.out 0).trans rfl, (blk_cell BK195.out 1).trans rfl, (blk_cell BK195.out 2).trans rfl, (blk_cell BK196.out 0).trans rfl, (blk_cell BK196.out 1).trans rfl, (blk_cell BK196.out 2).trans rfl⟩ (fun hHeld => ?_)
           clear hK K; refine norm_ (a' := ?_) ?_ ?_; rotate_left
           ·show Act.put _ (some 43) _ = _
            simp only [Act.put, List.setIfInBounds_toArray, List.set_cons_zero, List.set_cons_succ, i64_w, i32_w]
            rfl
           refine last_ (i := 20) (N := none) #[true, true, true, true, true, true, true, true, true, true, true, true, true, true, true, true, true, true, true, true, true, false, false, false, false] rfl rfl (one_of HT_.out (by kernel_rfl)) (by decide) (fun K hK => ?_)
           have hs46 : w43.cell? ⟨gb195, 0, none⟩ = some (.slice Ao28 x196000_1.length co28) := (blk_cell BK195.out 0).trans rfl
           have hfs46 := blk_frozen BK195.out 0
           have hns46_0 := NB194_195.out
           have hns46_2 := NB196_195.out
           have hms46_0 := NB195_194.out
           have hms46_2 := NB195_196.out
           refine skip_ (w1 := ?_) (by rfl) rfl ?_ ?_
           rotate_left
           ·go_simp
            rfl
           refine hK.out _ _ ?_
           clear hK K
           refine pure_ (i := 21) (N := some 45) (v := ?_) (a' := ?_) #[true, true, true, true, true, true, true, true, true, true, true, true, true, true, true, true, true, true, true, true, true, true, false, false, false] rfl rfl (any_of HT_.out (by kernel_rfl)) (fun _ _ _ h => h) (Or.inl ⟨by rfl, ?_⟩) ?_ ?_
           rotate_left
           ·intro w'
            go_simp; with_reducible rfl
           rotate_left
           ·simp only [Act.put, List.setIfInBounds_toArray, List.set_cons_zero, List.set_cons_succ, i64_w, i32_w]
            rfl
           refine last_ (i := 22) (N := none) #[true, true, true, true, true, true, true, true, true, true, true, true, true, true, true, true, true, true, true, true, true, true, true, false, false] rfl rfl (one_of HT_.out (by kernel_rfl)) (by decide) (fun K hK => ?_)
           have hs48 : w43.cell? ⟨gb195, 1, none⟩ = some (.slice Ao29 x196001_1.length co29) := (blk_cell BK195.out 1).trans rfl
           have hfs48 := blk_frozen BK195.out 1
           have hns48_0 := NB194_195.out
           have hns48_2 := NB196_195.out
           have hms48_0 := NB195_194.out
           have hms48_2 := NB195_196.out
           refine skip_ (w1 := ?_) (by rfl) rfl ?_ ?_
           rotate_left
           ·go_simp
            rfl
           refine hK.out _ _ ?_
           clear hK K
           refine pure_ (i := 23) (N := some 46) (v := ?_) (a' := ?_) #[true, true, true, true, true, true, true, true, true, true, true, true, true, true, true, true, true, true, true, true, true, true, true, true, false] rfl rfl (any_of HT_.out (by kernel_rfl)) (fun _ _ _ h => h) (Or.inl ⟨by rfl, ?_⟩) ?_ ?_
           rotate_left
           ·intro w'
            go_simp; with_reducible rfl
           rotate_left
           ·simp only [Act.put, List.setIfInBounds_toArray, List.set_cons_zero, List.set_cons_succ, i64_w, i32_w]
            rfl
           refine last_ (i := 24) (N := none) #[true, true, true, true, true, true, true, true, true, true, true, true, true, true, true, true, true, true, true, true, true, true, true, true, true] rfl rfl (one_of HT_.out (by kernel_rfl)) (by decide) (fun K hK => ?_)
           have hs50 : w43.cell? ⟨gb195, 2, none⟩ = some (.slice Ao30 x196002_1.length co30) := (blk_cell BK195.out 2).trans rfl
           have hfs50 := blk_frozen BK195.out 2
           have hns50_0 := NB194_195.out
           have hns50_2 := NB196_195.out
           have hms50_0 := NB195_194.out
           have hms50_2 := NB195_196.out
           refine skip_ (w1 := ?_) (by rfl) rfl ?_ ?_
           rotate_left
           ·go_simp
            rfl
           refine hK.out _ _ ?_
           clear hK K
           refine done_ (done_of HT_.out (by kernel_rfl)) ?_
           try go_wp2
           go_roundg kj19
           case measure => have := HK1.out; have := HJ8.out; have := HJ19.out; omega
           case rel => exact ⟨(wrap64 (x11_1 + 1)), (y202), (y208), (y214), (.slice Ao45 y202.length co45), (.slice Ao47 y208.length co47), (.slice Ao49 y214.length co49), a139_, H', ⟨by have := HK1.out; have := HJ8.out; have := HJ19.out; omega⟩, ⟨by (with_reducible repeat (first | apply Kd.R_alloc | apply Kd.R_drewN | apply Kd.R_drew)); exact Kd.R_mono (Kd.R_far (p := ⟨gb195, 2, none⟩) (Kd.R_far (p := ⟨gb195, 1, none⟩) (Kd.R_far (p := ⟨gb195, 0, none⟩) (Kd.R_types HO204.out BK195.out (by decide)) (fun _ hk => hk.2) (.slice Ao45 y202.length co45)) (fun _ hk => hk.2) (.slice Ao47 y208.length co47)) (fun _ hk => hk.2) (.slice Ao49 y214.length co49)) (fun _ hk => ⟨hk.1.1.2.2.1, hk.1.2⟩)⟩, ⟨by (with_reducible repeat (first | apply Kd.R_alloc | apply Kd.R_drewN | apply Kd.R_drew)); exact Kd.R_mono (Kd.R_far (p := ⟨gb195, 2, none⟩) (Kd.R_far (p := ⟨gb195, 1, none⟩) (Kd.R_far (p := ⟨gb195, 0, none⟩) (Kd.R_types HO210.out BK195.out (by decide)) (fun _ hk => hk.2) (.slice Ao45 y202.length co45)) (fun _ hk => hk.2) (.slice Ao47 y208.length co47)) (fun _ hk => hk.2) (.slice Ao49 y214.length co49)) (fun _ hk => ⟨hk.1.1.2.1, hk.1.2⟩)⟩, ⟨by (with_reducible repeat (first | apply Kd.R_alloc | apply Kd.R_drewN | apply Kd.R_drew)); exact Kd.R_mono (Kd.R_far (p := ⟨gb195, 2, none⟩) (Kd.R_far (p := ⟨gb195, 1, none⟩) (Kd.R_far (p := ⟨gb195, 0, none⟩) (Kd.R_types HO216.out BK195.out (by decide)) (fun _ hk => hk.2) (.slice Ao45 y202.length co45)) (fun _ hk => hk.2) (.slice Ao47 y208.length co47)) (fun _ hk => hk.2) (.slice Ao49 y214.length co49)) (fun _ hk => ⟨hk.1.2.1, hk.1.2.2.2.1⟩)⟩, ⟨by (with_reducible repeat (first | refine blk_drewN ?_ _ | refine blk_drew ?_ | refine blk_alloc ?_ _)); refine blk_far ?_ NB194_195.out _; (with_reducible repeat (first | refine blk_drewN ?_ _ | refine blk_drew ?_ | refine blk_alloc ?_ _)); refine blk_far ?_ NB194_195.out _; (with_reducible repeat (first | refine blk_drewN ?_ _ | refine blk_drew ?_ | refine blk_alloc ?_ _)); refine blk_far ?_ NB194_195.out _; (with_reducible repeat (first | refine blk_drewN ?_ _ | refine blk_drew ?_ | refine blk_alloc ?_ _)); exact BK194.out⟩, ⟨by (with_reducible repeat (first | refine blk_drewN ?_ _ | refine blk_drew ?_ | refine blk_alloc ?_ _)); refine blk_put (cs := #[.slice Ao45 y202.length co45, .slice Ao47 y208.length co47, .slice Ao30 x196002_1.length co30]) ?_ 2 _ rfl; (with_reducible repeat (first | refine blk_drewN ?_ _ | refine blk_drew ?_ | refine blk_alloc ?_ _)); refine blk_put (cs := #[.slice Ao45 y202.length co45, .slice Ao29 x196001_1.length co29, .slice Ao30 x196002_1.length co30]) ?_ 1 _ rfl; (with_reducible repeat (first | refine blk_drewN ?_ _ | refine blk_drew ?_ | refine blk_alloc ?_ _)); refine blk_put (cs := #[.slice Ao28 x196000_1.length co28, .slice Ao29 x196001_1.length co29, .slice Ao30 x196002_1.length co30]) ?_ 0 _ rfl; (with_reducible repeat (first | refine blk_drewN ?_ _ | refine blk_drew ?_ | refine blk_alloc ?_ _)); exact BK195.out⟩, ⟨by repeat (first | (with_reducible first | exact HB.out | apply below_alloc | apply pw_below_drewN | apply below_drew1 | refine below_set ?_ GE194.out | refine below_set ?_ GE195.out | refine below_set ?_ GE196.out) | exact HB.out)⟩⟩
          ·rw [if_neg c27] at H
           exact absurd H (by simp)
         ·rw [if_neg c26] at H
          exact absurd H (by simp)
        ·rw [if_neg c25] at H
         exact absurd H (by simp)
   ·rw [if_neg c7] at H
    have c7b0 : decide (x11_1 < a1) = false := decide_eq_false c7
    clear c7
    simp only [Option.some.injEq, Prod.mk.injEq] at H
    obtain ⟨rfl, rfl, rfl⟩ := H
    have hnb51 := NB195_194.out
    have hnc51 := NB194_195.out
    have hcz52_0 : wr.cell? ⟨gb195, 0, none⟩ = some (u196000) := (blk_cell BK195.out 0).trans rfl
    have hcz52_1 : wr.cell? ⟨gb195, 1, none⟩ = some (u196001) := (blk_cell BK195.out 1).trans rfl
    have hcz52_2 : wr.cell? ⟨gb195, 2, none⟩ = some (u196002) := (blk_cell BK195.out 2).trans rfl
    have hfz52_0 := blk_frozen BK195.out 0
    have hfz52_1 := blk_frozen BK195.out 1
    have hfz52_2 := blk_frozen BK195.out 2
    obtain ⟨Ao53, co53, eo53⟩ := Kd.R_slice HO_196000.out
    subst eo53
    have hcz54_0 : wr.cell? ⟨gb194, 0, none⟩ = some (.slice none 0 0) := (blk_cell BK194.out 0).trans rfl
    have hcz54_1 : wr.cell? ⟨gb194, 1, none⟩ = some (.slice none 0 0) := (blk_cell BK194.out 1).trans rfl
    have hcz54_2 : wr.cell? ⟨gb194, 2, none⟩ = some (.slice none 0 0) := (blk_cell BK194.out 2).trans rfl
    have hfz54_0 := blk_frozen BK194.out 0
    have hfz54_1 := blk_frozen BK194.out 1
    have hfz54_2 := blk_frozen BK194.out 2
    obtain ⟨Ao55, co55, eo55⟩ := Kd.R_slice HO_196001.out
    subst eo55
    obtain ⟨Ao56, co56, eo56⟩ := Kd.R_slice HO_196002.out
    subst eo56
    go_wp2
    refine bodyPost_ret (results_cell_row rfl _ _ gb194 29 #[.slice Ao53 x196000_1.length co53, .slice Ao55 x196001_1.length co55, .slice Ao56 x196002_1.length co56] (0, 0) _ rfl (by (with_reducible repeat (first | refine blk_drewN ?_ _ | refine blk_drew ?_ | refine blk_alloc ?_ _)); refine blk_put (cs := #[.slice Ao53 x196000_1.length co53, .slice Ao55 x196001_1.length co55, .slice none 0 0]) ?_ 2 _ rfl; (with_reducible repeat (first | refine blk_drewN ?_ _ | refine blk_drew ?_ | refine blk_alloc ?_ _)); refine blk_put (cs := #[.slice Ao53 x196000_1.length co53, .slice none 0 0, .slice none 0 0]) ?_ 1 _ rfl; (with_reducible repeat (first | refine blk_drewN ?_ _ | refine blk_drew ?_ | refine blk_alloc ?_ _)); refine blk_put (cs := #[.slice none 0 0, .slice none 0 0, .slice none 0 0]) ?_ 0 _ rfl; (with_reducible repeat (first | refine blk_drewN ?_ _ | refine blk_drew ?_ | refine blk_alloc ?_ _)); exact BK194.out) Try.underlying29 rfl (by kernel_rfl)) rfl ?_
    exact ⟨_, _, _, by first | rfl | (simp [errW_none, errW_some] <;> rfl) | (simp [*, errW_none, errW_some] <;> rfl), by (with_reducible repeat (first | apply Kd.R_alloc | apply Kd.R_drewN | apply Kd.R_drew)); exact Kd.R_mono (Kd.R_far (p := ⟨gb194, 2, none⟩) (Kd.R_far (p := ⟨gb194, 1, none⟩) (Kd.R_far (p := ⟨gb194, 0, none⟩) (Kd.R_types HO_196000.out BK194.out (by decide)) (fun _ hk => hk.2) (.slice Ao53 x196000_1.length co53)) (fun _ hk => hk.2) (.slice Ao55 x196001_1.length co55)) (fun _ hk => hk.2) (.slice Ao56 x196002_1.length co56)) (fun _ hk => ⟨hk.1.1, hk.1.2⟩), by (with_reducible repeat (first | apply Kd.R_alloc | apply Kd.R_drewN | apply Kd.R_drew)); exact Kd.R_mono (Kd.R_far (p := ⟨gb194, 2, none⟩) (Kd.R_far (p := ⟨gb194, 1, none⟩) (Kd.R_far (p := ⟨gb194, 0, none⟩) (Kd.R_types HO_196001.out BK194.out (by decide)) (fun _ hk => hk.2) (.slice Ao53 x196000_1.length co53)) (fun _ hk => hk.2) (.slice Ao55 x196001_1.length co55)) (fun _ hk => hk.2) (.slice Ao56 x196002_1.length co56)) (fun _ hk => ⟨hk.1.1, hk.1.2⟩), by (with_reducible repeat (first | apply Kd.R_alloc | apply Kd.R_drewN | apply Kd.R_drew)); exact Kd.R_mono (Kd.R_far (p := ⟨gb194, 2, none⟩) (Kd.R_far (p := ⟨gb194, 1, none⟩) (Kd.R_far (p := ⟨gb194, 0, none⟩) (Kd.R_types HO_196002.out BK194.out (by decide)) (fun _ hk => hk.2) (.slice Ao53 x196000_1.length co53)) (fun _ hk => hk.2) (.slice Ao55 x196001_1.length co55)) (fun _ hk => hk.2) (.slice Ao56 x196002_1.length co56)) (fun _ hk => ⟨hk.1.1, hk.1.2⟩), by repeat (first | (with_reducible first | exact HB.out | apply below_alloc | apply pw_below_drewN | apply below_drew1 | refine below_set ?_ GE194.out | refine below_set ?_ GE195.out) | exact HB.out)⟩

end Go.Proofs.Ytnjcmalmnofbmaa.XFnExactMachineFor
