/- Printed by this repository's own program (wip/tools/xprint.py) for the law FnExactMachineFor: Lean functions that say what the Go functions compute, and the proofs that the machine comes to just that; no condition beyond those in each statement. -/
import Derived.Test.YtnjcmalmnofbmaaXFnExactMachineForx0
import Derived.Test.YtnjcmalmnofbmaaXFnExactMachineForx1
namespace Go.Proofs.Ytnjcmalmnofbmaa.XFnExactMachineFor
open Go.RowKit Go.Proofs.YtnjcmalmnofbmaaW.PrintWords Go.Proofs.YtnjcmalmnofbmaaW.PrintLast Go.Proofs.YtnjcmalmnofbmaaW.PrintMore
attribute [local go_sem] max2_int min2_int max_two min_two max_three min_three max_four min_four   -- for this text's walks alone
set_option linter.unusedVariables false
set_option linter.unusedSimpArgs false

set_option maxHeartbeats 8000000 in
set_option maxRecDepth 100000 in
theorem spec_l07For.calls (k : Nat) (A0 : Option Addr) (c0 : Nat) (l0 : List (S118)) (a1 : Int) (r1 : List Int) (r2 : List Int) (r3 : List Int) (w : World) (hr0 : Kd.C k118 w A0 l0.length l0) (hc0 : l0.length ≤ c0) (h : spec_l07For.f k l0 a1 = some (r1, r2, r3)) :
    Calls Try.prog 116 #[.slice A0 l0.length c0, .int .i64 a1] w fun e w' => ∃ v0_ v1_ v2_ : Value, e = .returned (.agg #[v0_, v1_, v2_]) ∧ Kd.R (Kd.int .i16) 38 w' w.heap.size (fun k_ => some k_ ≠ (v1_ : Value).ownBlock ∧ some k_ ≠ (v2_ : Value).ownBlock) v0_ r1 ∧ Kd.R (Kd.int .i16) 38 w' w.heap.size (fun k_ => some k_ ≠ (v0_ : Value).ownBlock ∧ some k_ ≠ (v2_ : Value).ownBlock) v1_ r2 ∧ Kd.R (Kd.int .i16) 38 w' w.heap.size (fun k_ => some k_ ≠ (v0_ : Value).ownBlock ∧ some k_ ≠ (v1_ : Value).ownBlock) v2_ r3 ∧ Below w.heap.size w w' := by
 have hu29 := Try.underlying29
 have hu74 := Try.underlying74
 have hu118 := Try.underlying118
 have HR0 := Aside0.mk hr0
 have HC0 := Aside0.mk hc0
 clear hr0 hc0
 have HB := Aside0.mk (Below.refl w.heap.size w)
 have H : (spec_l07For.l0 k l0 a1 0 ([] : List Int) ([] : List Int) ([] : List Int)) = some (r1, r2, r3) := h
 clear h
 have H' := Aside0.mk H
 clear H
 go_enter Try.func116, Try.ntmps116
 go_wp2_with (first | ((with_reducible refine gate_dst (N := 4) rfl ?_); refine box_event ?hg (N := 4) ?hd (cs := #[.slice none 0 0, .slice none 0 0, .slice none 0 0]) (t := 29) ?hr ?_; (case hd => rfl); (case hg => rfl); (case hr => first | (go_simp; done) | (go_simp; rfl)); intro gb125 hg w3 hbox hb; have n0_ := Aside0.mk (below_step a52_ hb); have n1_ := Aside0.mk (hbox); have n2_ := Aside0.mk ((by rw [hg]; exact (below_size a52_) : w.heap.size ≤ gb125)); have n3_ := Aside0.mk ((by rw [hg]; exact (below_size a52_) : w.heap.size ≤ gb125)); clear HB; have HB := n0_; have BK125 := n1_; have GW125 := n2_; have GE125 := n3_; clear n0_ n1_ n2_ n3_; clear hb hbox hg) | ((with_reducible refine gate_dst (N := 5) rfl ?_); refine box_event ?hg (N := 5) ?hd (cs := #[.slice none 0 0, .slice none 0 0, .slice none 0 0]) (t := 29) ?hr ?_; (case hd => rfl); (case hg => rfl); (case hr => first | (go_simp; done) | (go_simp; rfl)); intro gb126 hg w4 hbox hb; have n0_ := Aside0.mk (blk_below (g := gb125) a34_ hb); have n1_ := Aside0.mk (below_step a51_ hb); have n2_ := Aside0.mk (hbox); have n3_ := Aside0.mk ((by rw [hg]; exact (below_size a51_) : w.heap.size ≤ gb126)); have n4_ := Aside0.mk ((by rw [hg]; exact (below_size a51_) : w.heap.size ≤ gb126)); have n5_ := Aside0.mk ((a60_ : gb125 ≠ gb126)); have n6_ := Aside0.mk ((a61_ : gb126 ≠ gb125)); clear BK125; clear HB; have BK125 := n0_; have HB := n1_; have BK126 := n2_; have GW126 := n3_; have GE126 := n4_; have NB125_126 := n5_; have NB126_125 := n6_; clear n0_ n1_ n2_ n3_ n4_ n5_ n6_; clear hb hbox hg; have hnb5 := NB126_125.out; have hnc5 := NB125_126.out; have hcz6_0 : w4.cell? ⟨gb126, 0, none⟩ = some (.slice none 0 0) := (blk_cell BK126.out 0).trans rfl; have hcz6_1 : w4.cell? ⟨gb126, 1, none⟩ = some (.slice none 0 0) := (blk_cell BK126.out 1).trans rfl; have hcz6_2 : w4.cell? ⟨gb126, 2, none⟩ = some (.slice none 0 0) := (blk_cell BK126.out 2).trans rfl; have hfz6_0 := blk_frozen BK126.out 0; have hfz6_1 := blk_frozen BK126.out 1; have hfz6_2 := blk_frozen BK126.out 2))
 go_loopg [6] k (fun kq v6 w' => ∃ (x6_1 : Int) (x127000_1 : List Int) (x127001_1 : List Int) (x127002_1 : List Int) (u127000 : Value) (u127001 : Value) (u127002 : Value), v6 = .int .i64 x6_1 ∧ Aside0 (spec_l07For.l0 kq l0 a1 x6_1 x127000_1 x127001_1 x127002_1 = some (r1, r2, r3)) ∧ Aside0 (kq ≤ k) ∧ Aside0 (Kd.R (Kd.int .i16) 38 w' w.heap.size (fun k_ => some k_ ≠ (u127001 : Value).ownBlock ∧ some k_ ≠ (u127002 : Value).ownBlock) u127000 x127000_1) ∧ Aside0 (Kd.R (Kd.int .i16) 38 w' w.heap.size (fun k_ => some k_ ≠ (u127000 : Value).ownBlock ∧ some k_ ≠ (u127002 : Value).ownBlock) u127001 x127001_1) ∧ Aside0 (Kd.R (Kd.int .i16) 38 w' w.heap.size (fun k_ => some k_ ≠ (u127000 : Value).ownBlock ∧ some k_ ≠ (u127001 : Value).ownBlock) u127002 x127002_1) ∧ Aside0 (w'.heap[gb125]? = some (.cells #[(.slice none 0 0), (.slice none 0 0), (.slice none 0 0)] 29 (0, 0))) ∧ Aside0 (w'.heap[gb126]? = some (.cells #[u127000, u127001, u127002] 29 (0, 0))) ∧ Aside0 (Below w.heap.size w w'))
 case atStart => exact ⟨(0), (([] : List Int)), (([] : List Int)), (([] : List Int)), (.slice none 0 0), (.slice none 0 0), (.slice none 0 0), a59_, H', ⟨Nat.le_refl _⟩, ⟨by first | exact Kd.R_nil _ _ _ _ _ | exact Kd.N_nil _ _ _ _ _ | exact Kd.V_nil _ _ _ _ _ | exact Kd.Q_nil _ _ _ _ _ | exact Kd.S_nil _ _ _ _ _⟩, ⟨by first | exact Kd.R_nil _ _ _ _ _ | exact Kd.N_nil _ _ _ _ _ | exact Kd.V_nil _ _ _ _ _ | exact Kd.Q_nil _ _ _ _ _ | exact Kd.S_nil _ _ _ _ _⟩, ⟨by first | exact Kd.R_nil _ _ _ _ _ | exact Kd.N_nil _ _ _ _ _ | exact Kd.V_nil _ _ _ _ _ | exact Kd.Q_nil _ _ _ _ _ | exact Kd.S_nil _ _ _ _ _⟩, ⟨by (with_reducible repeat (first | refine blk_drewN ?_ _ | refine blk_drew ?_ | refine blk_alloc ?_ _)); refine blk_far ?_ NB125_126.out _; (with_reducible repeat (first | refine blk_drewN ?_ _ | refine blk_drew ?_ | refine blk_alloc ?_ _)); refine blk_far ?_ NB125_126.out _; (with_reducible repeat (first | refine blk_drewN ?_ _ | refine blk_drew ?_ | refine blk_alloc ?_ _)); refine blk_far ?_ NB125_126.out _; (with_reducible repeat (first | refine blk_drewN ?_ _ | refine blk_drew ?_ | refine blk_alloc ?_ _)); exact BK125.out⟩, ⟨by (with_reducible repeat (first | refine blk_drewN ?_ _ | refine blk_drew ?_ | refine blk_alloc ?_ _)); refine blk_put (cs := #[.slice none 0 0, .slice none 0 0, .slice none 0 0]) ?_ 2 _ rfl; (with_reducible repeat (first | refine blk_drewN ?_ _ | refine blk_drew ?_ | refine blk_alloc ?_ _)); refine blk_put (cs := #[.slice none 0 0, .slice none 0 0, .slice none 0 0]) ?_ 1 _ rfl; (with_reducible repeat (first | refine blk_drewN ?_ _ | refine blk_drew ?_ | refine blk_alloc ?_ _)); refine blk_put (cs := #[.slice none 0 0, .slice none 0 0, .slice none 0 0]) ?_ 0 _ rfl; (with_reducible repeat (first | refine blk_drewN ?_ _ | refine blk_drew ?_ | refine blk_alloc ?_ _)); exact BK126.out⟩, ⟨by repeat (first | (with_reducible first | exact HB.out | apply below_alloc | apply pw_below_drewN | apply below_drew1 | refine below_set ?_ GE125.out | refine below_set ?_ GE126.out) | exact HB.out)⟩⟩
 case round =>
  clear H'
  try clear c1
  try clear p2
  try clear c5
  try clear hcz6_0
  try clear hcz6_1
  try clear hcz6_2
  try clear hfz6_0
  try clear hfz6_1
  try clear hfz6_2
  obtain ⟨x6_1, x127000_1, x127001_1, x127002_1, u127000, u127001, u127002, rfl, HA, HK1, HO_127000, HO_127001, HO_127002, BK125, BK126, HB⟩ := hrel
  cases gk with
  | zero => exact absurd HA.out (by simp [spec_l07For.l0])
  | succ k1 =>
   have H := HA.out
   clear HA
   simp only [spec_l07For.l0] at H
   by_cases c7 : x6_1 < a1
   ·rw [if_pos c7] at H
    have c7b0 : decide (x6_1 < a1) = true := decide_eq_true c7
    clear c7
    by_cases c8 : x6_1 < (l0.length : Int)
    ·rw [if_pos c8] at H
     have c8b0 : decide (x6_1 < (l0.length : Int)) = true := decide_eq_true c8
     clear c8
     by_cases c9 : 0 ≤ x6_1
     ·rw [if_pos c9] at H
      have c9b0 : decide (0 ≤ x6_1) = true := decide_eq_true c9
      clear c9
      obtain ⟨bq10, hbq10⟩ : ∃ b_ : Bool, b_ = ((rd_T118 l0 x6_1).f1) := ⟨_, rfl⟩
      replace H : (if bq10 = true then (if x127000_1.length < 70368744177664 then (if x127001_1.length < 70368744177664 then (if x127002_1.length < 70368744177664 then (spec_l07For.l0 k1 l0 a1 (wrap64 (x6_1 + 1)) (x127000_1 ++ [(rd_T118 l0 x6_1).f0.f0]) (x127001_1 ++ [(rd_T118 l0 x6_1).f0.f1]) (x127002_1 ++ [0])) else (none)) else (none)) else (none)) else (if x127000_1.length < 70368744177664 then (if x127001_1.length < 70368744177664 then (if x127002_1.length < 70368744177664 then (spec_l07For.l0 k1 l0 a1 (wrap64 (x6_1 + 1)) (x127000_1 ++ [(rd_T118 l0 x6_1).f0.f0]) (x127001_1 ++ [(rd_T118 l0 x6_1).f0.f1]) (x127002_1 ++ [1])) else (none)) else (none)) else (none))) = some (r1, r2, r3) := by rw [← hbq10] at H; exact H
      have Nbq10 := Aside0.mk hbq10
      clear hbq10
      by_cases c11 : bq10 = true
      ·subst c11
       have H1 : (if x127000_1.length < 70368744177664 then (if x127001_1.length < 70368744177664 then (if x127002_1.length < 70368744177664 then (spec_l07For.l0 k1 l0 a1 (wrap64 (x6_1 + 1)) (x127000_1 ++ [(rd_T118 l0 x6_1).f0.f0]) (x127001_1 ++ [(rd_T118 l0 x6_1).f0.f1]) (x127002_1 ++ [0])) else (none)) else (none)) else (none)) = some (r1, r2, r3) := by rw [if_pos rfl] at H; exact H
       clear H
       have H := H1
       clear H1
       by_cases c12 : x127000_1.length < 70368744177664
       ·rw [if_pos c12] at H
        have LMc12 := Aside0.mk c12
        clear c12
        obtain ⟨y130, hy130⟩ : ∃ y_ : List Int, y_ = (x127000_1 ++ [(rd_T118 l0 x6_1).f0.f0]) := ⟨_, rfl⟩
        replace H : (if x127001_1.length < 70368744177664 then (if x127002_1.length < 70368744177664 then (spec_l07For.l0 k1 l0 a1 (wrap64 (x6_1 + 1)) y130 (x127001_1 ++ [(rd_T118 l0 x6_1).f0.f1]) (x127002_1 ++ [0])) else (none)) else (none)) = some (r1, r2, r3) := by first | (rw [hy130]; with_reducible exact H) | (have H2_ := (Option.bind_some _ _).symm.trans H; rw [hy130]; with_reducible exact H2_) | (have H2_ := (Option.bind_some _ _).symm.trans H; with_reducible exact H2_) | with_reducible exact H | (rw [hy130]; exact H) | exact H
        have Ny130 := Aside0.mk hy130
        clear hy130
        by_cases c13 : x127001_1.length < 70368744177664
        ·rw [if_pos c13] at H
         have LMc13 := Aside0.mk c13
         clear c13
         obtain ⟨y133, hy133⟩ : ∃ y_ : List Int, y_ = (x127001_1 ++ [(rd_T118 l0 x6_1).f0.f1]) := ⟨_, rfl⟩
         replace H : (if x127002_1.length < 70368744177664 then (spec_l07For.l0 k1 l0 a1 (wrap64 (x6_1 + 1)) y130 y133 (x127002_1 ++ [0])) else (none)) = some (r1, r2, r3) := by first | (rw [hy133]; with_reducible exact H) | (have H2_ := (Option.bind_some _ _).symm.trans H; rw [hy133]; with_reducible exact H2_) | (have H2_ := (Option.bind_some _ _).symm.trans H; with_reducible exact H2_) | with_reducible exact H | (rw [hy133]; exact H) | exact H
         have Ny133 := Aside0.mk hy133
         clear hy133
         by_cases c14 : x127002_1.length < 70368744177664
         ·rw [if_pos c14] at H
          have LMc14 := Aside0.mk c14
          clear c14
          obtain ⟨y136, hy136⟩ : ∃ y_ : List Int, y_ = (x127002_1 ++ [0]) := ⟨_, rfl⟩
          replace H : (spec_l07For.l0 k1 l0 a1 (wrap64 (x6_1 + 1)) y130 y133 y136) = some (r1, r2, r3) := by first | (rw [hy136]; with_reducible exact H) | (have H2_ := (Option.bind_some _ _).symm.trans H; rw [hy136]; with_reducible exact H2_) | (have H2_ := (Option.bind_some _ _).symm.trans H; with_reducible exact H2_) | with_reducible exact H | (rw [hy136]; exact H) | exact H
          have Ny136 := Aside0.mk hy136
          clear hy136
          have H' := Aside0.mk H
          clear H
          go_wp2_with (first | ((with_reducible refine gate_dst (N := 7) rfl ?_); refine box_event ?hg (N := 7) ?hd (cs := #[.int .i16 0, .int .i16 0]) (t := 74) ?hr ?_; (case hd => rfl); (case hg => rfl); (case hr => first | (go_simp; done) | (go_simp; rfl)); intro gb127 hg w15 hbox hb; have n0_ := Aside0.mk (Kd.R_below a56_ hb); have n1_ := Aside0.mk (Kd.R_below a57_ hb); have n2_ := Aside0.mk (Kd.R_below a58_ hb); have n3_ := Aside0.mk (blk_below (g := gb125) a34_ hb); have n4_ := Aside0.mk (blk_below (g := gb126) a37_ hb); have n5_ := Aside0.mk (below_step a30_ hb); have n6_ := Aside0.mk (hbox); have n7_ := Aside0.mk ((a64_ : w.heap.size ≤ gb127)); have n8_ := Aside0.mk ((a64_ : w.heap.size ≤ gb127)); have n9_ := Aside0.mk ((a60_ : gb125 ≠ gb127)); have n10_ := Aside0.mk ((a61_ : gb127 ≠ gb125)); have n11_ := Aside0.mk ((a62_ : gb126 ≠ gb127)); have n12_ := Aside0.mk ((a63_ : gb127 ≠ gb126)); clear HO_127000; clear HO_127001; clear HO_127002; clear BK125; clear BK126; clear HB; have HO_127000 := n0_; have HO_127001 := n1_; have HO_127002 := n2_; have BK125 := n3_; have BK126 := n4_; have HB := n5_; have BK127 := n6_; have GW127 := n7_; have GE127 := n8_; have NB125_127 := n9_; have NB127_125 := n10_; have NB126_127 := n11_; have NB127_126 := n12_; clear n0_ n1_ n2_ n3_ n4_ n5_ n6_ n7_ n8_ n9_ n10_ n11_ n12_; clear hb hbox hg; have hnb16 := NB127_125.out; have hnc16 := NB125_127.out; have hnb17 := NB127_126.out; have hnc17 := NB126_127.out; have hcz18_0 : w15.cell? ⟨gb127, 0, none⟩ = some (.int .i16 0) := (blk_cell BK127.out 0).trans rfl; have hcz18_1 : w15.cell? ⟨gb127, 1, none⟩ = some (.int .i16 0) := (blk_cell BK127.out 1).trans rfl; have hfz18_0 := blk_frozen BK127.out 0; have hfz18_1 := blk_frozen BK127.out 1; have p128 : 0 ≤ (x6_1 : Int) := of_decide_eq_true a53_; have q128 : x6_1 < (l0.length : Int) := of_decide_eq_true a53_; obtain ⟨ad128, e128, hx128_0, hx128_1, hx128_2⟩ := at_T118 HR0.out x6_1 p128 q128; (try rw [← Nbq10.out] at hx128_2); cases e128; have hn128_0 : ad128.block ≠ gb127 := Nat.ne_of_lt (Nat.lt_of_lt_of_le a55_ GW127.out); have hn128_1 : ad128.block ≠ gb127 := Nat.ne_of_lt (Nat.lt_of_lt_of_le a55_ GW127.out); replace hx128_0 := (HB.out.cell (World.block_lt_of_cell? w _ hx128_0)).trans hx128_0; replace hx128_1 := (HB.out.cell (World.block_lt_of_cell? w _ hx128_1)).trans hx128_1; replace hx128_2 := (HB.out.cell (World.block_lt_of_cell? w _ hx128_2)).trans hx128_2; replace hx128_0 := (cell_far (p := ⟨gb127, 0, none⟩) a44_ (.int .i16 0)).trans hx128_0; replace hx128_1 := (cell_far (p := ⟨gb127, 0, none⟩) a44_ (.int .i16 0)).trans hx128_1; replace hx128_2 := (cell_far (p := ⟨gb127, 0, none⟩) a44_ (.int .i16 0)).trans hx128_2; replace hx128_0 := (cell_far (p := ⟨gb127, 1, none⟩) a45_ (.int .i16 0)).trans hx128_0; replace hx128_1 := (cell_far (p := ⟨gb127, 1, none⟩) a45_ (.int .i16 0)).trans hx128_1; replace hx128_2 := (cell_far (p := ⟨gb127, 1, none⟩) a45_ (.int .i16 0)).trans hx128_2; clear hn128_0; clear hn128_1; replace p128 := eq_true p128; replace q128 := eq_true q128; have p129 : 0 ≤ (x6_1 : Int) := of_decide_eq_true a53_; have q129 : x6_1 < (l0.length : Int) := of_decide_eq_true a53_; obtain ⟨ad129, e129, hx129_0, hx129_1, hx129_2⟩ := at_T118 HR0.out x6_1 p129 q129; (try rw [← Nbq10.out] at hx129_2); obtain rfl : ad128 = ad129 := (by injection e129); have hn129_0 : ad128.block ≠ gb127 := Nat.ne_of_lt (Nat.lt_of_lt_of_le a50_ GW127.out); have hn129_1 : ad128.block ≠ gb127 := Nat.ne_of_lt (Nat.lt_of_lt_of_le a50_ GW127.out); have hn129_2 : ad128.block ≠ gb127 := Nat.ne_of_lt (Nat.lt_of_lt_of_le a50_ GW127.out); have hn129_3 : ad128.block ≠ gb127 := Nat.ne_of_lt (Nat.lt_of_lt_of_le a50_ GW127.out); replace hx129_0 := (HB.out.cell (World.block_lt_of_cell? w _ hx129_0)).trans hx129_0; replace hx129_1 := (HB.out.cell (World.block_lt_of_cell? w _ hx129_1)).trans hx129_1; replace hx129_2 := (HB.out.cell (World.block_lt_of_cell? w _ hx129_2)).trans hx129_2; replace hx129_0 := (cell_far (p := ⟨gb127, 0, none⟩) a46_ (.int .i16 0)).trans hx129_0; replace hx129_1 := (cell_far (p := ⟨gb127, 0, none⟩) a46_ (.int .i16 0)).trans hx129_1; replace hx129_2 := (cell_far (p := ⟨gb127, 0, none⟩) a46_ (.int .i16 0)).trans hx129_2; replace hx129_0 := (cell_far (p := ⟨gb127, 1, none⟩) a47_ (.int .i16 0)).trans hx129_0; replace hx129_1 := (cell_far (p := ⟨gb127, 1, none⟩) a47_ (.int .i16 0)).trans hx129_1; replace hx129_2 := (cell_far (p := ⟨gb127, 1, none⟩) a47_ (.int .i16 0)).trans hx129_2; replace hx129_0 := (cell_far (p := ⟨gb127, 0, none⟩) a48_ (.int .i16 ((rd_T118 l0 x6_1).f0.f0))).trans hx129_0; replace hx129_1 := (cell_far (p := ⟨gb127, 0, none⟩) a48_ (.int .i16 ((rd_T118 l0 x6_1).f0.f0))).trans hx129_1; replace hx129_2 := (cell_far (p := ⟨gb127, 0, none⟩) a48_ (.int .i16 ((rd_T118 l0 x6_1).f0.f0))).trans hx129_2; replace hx129_0 := (cell_far (p := ⟨gb127, 1, none⟩) a49_ (.int .i16 ((rd_T118 l0 x6_1).f0.f1))).trans hx129_0; replace hx129_1 := (cell_far (p := ⟨gb127, 1, none⟩) a49_ (.int .i16 ((rd_T118 l0 x6_1).f0.f1))).trans hx129_1; replace hx129_2 := (cell_far (p := ⟨gb127, 1, none⟩) a49_ (.int .i16 ((rd_T118 l0 x6_1).f0.f1))).trans hx129_2; clear hn129_0; clear hn129_1; clear hn129_2; clear hn129_3; replace p129 := eq_true p129; replace q129 := eq_true q129; have hnb19 := NB126_125.out; have hnc19 := NB125_126.out; have hcz20_0 : w15.cell? ⟨gb126, 0, none⟩ = some (u127000) := (blk_cell BK126.out 0).trans rfl; have hcz20_1 : w15.cell? ⟨gb126, 1, none⟩ = some (u127001) := (blk_cell BK126.out 1).trans rfl; have hcz20_2 : w15.cell? ⟨gb126, 2, none⟩ = some (u127002) := (blk_cell BK126.out 2).trans rfl; have hfz20_0 := blk_frozen BK126.out 0; have hfz20_1 := blk_frozen BK126.out 1; have hfz20_2 := blk_frozen BK126.out 2) | ((with_reducible refine gate_builtin (b := .append) (xs := #[.tmp 31, .tmp 34]) rfl ?_); at_builtin; refine Kd.R_append (Kd.int .i16) (w0 := w) w.heap.size rfl (.tmp 31) (.tmp 34) 27 38 (.int .i16 0) 2 rfl Try.underlying27 info38 rfl (by decide) (by omega) u127000 x127000_1 ((rd_T118 l0 x6_1).f0.f0) [.int .i16 ((rd_T118 l0 x6_1).f0.f0)] (fun k_ => some k_ ≠ (u127001 : Value).ownBlock ∧ some k_ ≠ (u127002 : Value).ownBlock) (fun _ => False) rfl a54_ ?aP (fun _ hk => hk.elim) ?aF ?aO ?aB ?aS ?aL ?_; (case aP => exact rfl); (case aB => exact a29_); (case aF => exact (fun k_ hk => ⟨Kd.fresh' (Kd.R_lt a41_) k_ hk, Kd.fresh' (Kd.R_lt a42_) k_ hk⟩)); (case aO => exact a38_); (case aS => exact (below_size a29_)); (case aL => have := LMc12.out; omega); intro v131 w21 ho hb hg hat; rw [← Ny130.out] at ho; have n0_ := Aside0.mk (Kd.R_after (ok := (fun k_ => some k_ ≠ (u127002 : Value).ownBlock)) a39_ hg hat); have n1_ := Aside0.mk (Kd.R_after (ok := (fun k_ => some k_ ≠ (u127001 : Value).ownBlock)) a40_ hg hat); have n2_ := Aside0.mk (blk_grown (g := gb125) (o := .cells #[.slice none 0 0, .slice none 0 0, .slice none 0 0] 29 (0, 0)) a35_ hg (Kd.R_ne HO_127000.out BK125.out (by decide))); have n3_ := Aside0.mk (blk_grown (g := gb126) (o := .cells #[u127000, u127001, u127002] 29 (0, 0)) a36_ hg (Kd.R_ne HO_127000.out BK126.out (by decide))); have n4_ := Aside0.mk (blk_grown (g := gb127) (o := .cells #[.int .i16 ((rd_T118 l0 x6_1).f0.f0), .int .i16 ((rd_T118 l0 x6_1).f0.f1)] 74 (0, 0)) a31_ hg (Kd.R_ne HO_127000.out BK127.out (by decide))); have n5_ := Aside0.mk (hb); have n6_ := Aside0.mk (ho); clear HO_127001; clear HO_127002; clear BK125; clear BK126; clear BK127; clear HB; clear HO_127000; have HO_127001 := n0_; have HO_127002 := n1_; have BK125 := n2_; have BK126 := n3_; have BK127 := n4_; have HB := n5_; have HO132 := n6_; clear n0_ n1_ n2_ n3_ n4_ n5_ n6_; clear ho hb hg hat; obtain ⟨Ao22, co22, eo22⟩ := Kd.R_slice HO132.out; subst eo22; have hcz23_0 : w21.cell? ⟨gb126, 0, none⟩ = some (u127000) := (blk_cell BK126.out 0).trans rfl; have hcz23_1 : w21.cell? ⟨gb126, 1, none⟩ = some (u127001) := (blk_cell BK126.out 1).trans rfl; have hcz23_2 : w21.cell? ⟨gb126, 2, none⟩ = some (u127002) := (blk_cell BK126.out 2).trans rfl; have hfz23_0 := blk_frozen BK126.out 0; have hfz23_1 := blk_frozen BK126.out 1; have hfz23_2 := blk_frozen BK126.out 2; have hcz24_0 : w21.cell? ⟨gb127, 0, none⟩ = some (.int .i16 ((rd_T118 l0 x6_1).f0.f0)) := (blk_cell BK127.out 0).trans rfl; have hcz24_1 : w21.cell? ⟨gb127, 1, none⟩ = some (.int .i16 ((rd_T118 l0 x6_1).f0.f1)) := (blk_cell BK127.out 1).trans rfl; have hfz24_0 := blk_frozen BK127.out 0; have hfz24_1 := blk_frozen BK127.out 1) | ((with_reducible refine gate_builtin (b := .append) (xs := #[.tmp 38, .tmp 41]) rfl ?_); at_builtin; refine Kd.R_append (Kd.int .i16) (w0 := w) w.heap.size rfl (.tmp 38) (.tmp 41) 27 38 (.int .i16 0) 2 rfl Try.underlying27 info38 rfl (by decide) (by omega) u127001 x127001_1 ((rd_T118 l0 x6_1).f0.f1) [.int .i16 ((rd_T118 l0 x6_1).f0.f1)] (fun k_ => some k_ ≠ (u127002 : Value).ownBlock ∧ nbk k_ Ao22 y130.length co22) (fun _ => False) rfl a54_ ?aP (fun _ hk => hk.elim) ?aF ?aO ?aB ?aS ?aL ?_; (case aP => exact rfl); (case aB => exact a29_); (case aF => exact (fun k_ hk => ⟨Kd.fresh' (Kd.R_lt (by (with_reducible repeat (first | apply Kd.R_alloc | apply Kd.R_drewN | apply Kd.R_drew)); exact (Kd.R_mono (Kd.R_far (p := ⟨gb126, 0, none⟩) (Kd.R_types HO_127002.out BK126.out (by decide)) (fun _ hk => hk.2) (.slice Ao22 y130.length co22)) (fun _ h_ => h_.1)))) k_ hk, Kd.fresh' (Kd.R_lt (by (with_reducible repeat (first | apply Kd.R_alloc | apply Kd.R_drewN | apply Kd.R_drew)); exact (Kd.R_mono (Kd.R_far (p := ⟨gb126, 0, none⟩) (Kd.R_types HO132.out BK126.out (by decide)) (fun _ hk => hk.2) (.slice Ao22 y130.length co22)) (fun _ h_ => h_.1)))) k_ hk⟩)); (case aO => exact (by (with_reducible repeat (first | apply Kd.R_alloc | apply Kd.R_drewN | apply Kd.R_drew)); exact Kd.R_mono (Kd.R_far (p := ⟨gb126, 0, none⟩) (Kd.R_types HO_127001.out BK126.out (by decide)) (fun _ hk => hk.2) (.slice Ao22 y130.length co22)) (fun _ hk => ⟨hk.1.1, hk.1.2⟩))); (case aS => exact (below_size a29_)); (case aL => have := LMc13.out; omega); intro v134 w25 ho hb hg hat; rw [← Ny133.out] at ho; have n0_ := Aside0.mk (Kd.R_after (ok := (fun k_ => nbk k_ Ao22 y130.length co22)) (by (with_reducible repeat (first | apply Kd.R_alloc | apply Kd.R_drewN | apply Kd.R_drew)); exact Kd.R_mono (Kd.R_far (p := ⟨gb126, 0, none⟩) (Kd.R_types HO_127002.out BK126.out (by decide)) (fun _ hk => hk.2) (.slice Ao22 y130.length co22)) (fun _ hk => ⟨hk.1.2, hk.1.1⟩)) hg hat); have n1_ := Aside0.mk (blk_grown (g := gb125) (o := .cells #[.slice none 0 0, .slice none 0 0, .slice none 0 0] 29 (0, 0)) a32_ hg (Kd.R_ne HO_127001.out BK125.out (by decide))); have n2_ := Aside0.mk (blk_grown (g := gb126) (o := .cells #[.slice Ao22 y130.length co22, u127001, u127002] 29 (0, 0)) a43_ hg (Kd.R_ne HO_127001.out BK126.out (by decide))); have n3_ := Aside0.mk (blk_grown (g := gb127) (o := .cells #[.int .i16 ((rd_T118 l0 x6_1).f0.f0), .int .i16 ((rd_T118 l0 x6_1).f0.f1)] 74 (0, 0)) a33_ hg (Kd.R_ne HO_127001.out BK127.out (by decide))); have n4_ := Aside0.mk (Kd.R_after (ok := (fun k_ => some k_ ≠ (u127002 : Value).ownBlock)) (by (with_reducible repeat (first | apply Kd.R_alloc | apply Kd.R_drewN | apply Kd.R_drew)); exact Kd.R_mono (Kd.R_far (p := ⟨gb126, 0, none⟩) (Kd.R_types HO132.out BK126.out (by decide)) (fun _ hk => hk.2) (.slice Ao22 y130.length co22)) (fun _ hk => ⟨hk.1.2, hk.1.1⟩)) hg hat); have n5_ := Aside0.mk (hb); have n6_ := Aside0.mk (ho); clear HO_127002; clear BK125; clear BK126; clear BK127; clear HO132; clear HB; clear HO_127001; have HO_127002 := n0_; have BK125 := n1_; have BK126 := n2_; have BK127 := n3_; have HO132 := n4_; have HB := n5_; have HO135 := n6_; clear n0_ n1_ n2_ n3_ n4_ n5_ n6_; clear ho hb hg hat; obtain ⟨Ao26, co26, eo26⟩ := Kd.R_slice HO135.out; subst eo26; have hcz27_0 : w25.cell? ⟨gb126, 0, none⟩ = some (.slice Ao22 y130.length co22) := (blk_cell BK126.out 0).trans rfl; have hcz27_1 : w25.cell? ⟨gb126, 1, none⟩ = some (u127001) := (blk_cell BK126.out 1).trans rfl; have hcz27_2 : w25.cell? ⟨gb126, 2, none⟩ = some (u127002) := (blk_cell BK126.out 2).trans rfl; have hfz27_0 := blk_frozen BK126.out 0; have hfz27_1 := blk_frozen BK126.out 1; have hfz27_2 := blk_frozen BK126.out 2) | ((with_reducible refine gate_builtin (b := .append) (xs := #[.tmp 45, .tmp 47]) rfl ?_); at_builtin; refine Kd.R_append (Kd.int .i16) (w0 := w) w.heap.size rfl (.tmp 45) (.tmp 47) 27 38 (.int .i16 0) 2 rfl Try.underlying27 info38 rfl (by decide) (by omega) u127002 x127002_1 0 [.int .i16 0] (fun k_ => nbk k_ Ao22 y130.length co22 ∧ nbk k_ Ao26 y133.length co26) (fun _ => False) rfl a54_ ?aP (fun _ hk => hk.elim) ?aF ?aO ?aB ?aS ?aL ?_; (case aP => exact rfl); (case aB => exact a29_); (case aF => exact (fun k_ hk => ⟨Kd.fresh' (Kd.R_lt (by (with_reducible repeat (first | apply Kd.R_alloc | apply Kd.R_drewN | apply Kd.R_drew)); exact (Kd.R_mono (Kd.R_far (p := ⟨gb126, 1, none⟩) (Kd.R_types HO132.out BK126.out (by decide)) (fun _ hk => hk.2) (.slice Ao26 y133.length co26)) (fun _ h_ => h_.1)))) k_ hk, Kd.fresh' (Kd.R_lt (by (with_reducible repeat (first | apply Kd.R_alloc | apply Kd.R_drewN | apply Kd.R_drew)); exact (Kd.R_mono (Kd.R_far (p := ⟨gb126, 1, none⟩) (Kd.R_types HO135.out BK126.out (by decide)) (fun _ hk => hk.2) (.slice Ao26 y133.length co26)) (fun _ h_ => h_.1)))) k_ hk⟩)); (case aO => exact (by (with_reducible repeat (first | apply Kd.R_alloc | apply Kd.R_drewN | apply Kd.R_drew)); exact Kd.R_mono (Kd.R_far (p := ⟨gb126, 1, none⟩) (Kd.R_types HO_127002.out BK126.out (by decide)) (fun _ hk => hk.2) (.slice Ao26 y133.length co26)) (fun _ hk => ⟨hk.1.1, hk.1.2⟩))); (case aS => exact (below_size a29_)); (case aL => have := LMc14.out; omega); intro v137 w28 ho hb hg hat; rw [← Ny136.out] at ho; have n0_ := Aside0.mk (blk_grown (g := gb125) (o := .cells #[.slice none 0 0, .slice none 0 0, .slice none 0 0] 29 (0, 0)) a32_ hg (Kd.R_ne HO_127002.out BK125.out (by decide))); have n1_ := Aside0.mk (blk_grown (g := gb126) (o := .cells #[.slice Ao22 y130.length co22, .slice Ao26 y133.length co26, u127002] 29 (0, 0)) (by (with_reducible repeat (first | refine blk_drewN ?_ _ | refine blk_drew ?_ | refine blk_alloc ?_ _)); refine blk_put (cs := #[.slice Ao22 y130.length co22, u127001, u127002]) ?_ 1 _ rfl; (with_reducible repeat (first | refine blk_drewN ?_ _ | refine blk_drew ?_ | refine blk_alloc ?_ _)); exact BK126.out) hg (Kd.R_ne HO_127002.out BK126.out (by decide))); have n2_ := Aside0.mk (blk_grown (g := gb127) (o := .cells #[.int .i16 ((rd_T118 l0 x6_1).f0.f0), .int .i16 ((rd_T118 l0 x6_1).f0.f1)] 74 (0, 0)) a33_ hg (Kd.R_ne HO_127002.out BK127.out (by decide))); have n3_ := Aside0.mk (Kd.R_after (ok := (fun k_ => nbk k_ Ao26 y133.length co26)) (by (with_reducible repeat (first | apply Kd.R_alloc | apply Kd.R_drewN | apply Kd.R_drew)); exact Kd.R_mono (Kd.R_far (p := ⟨gb126, 1, none⟩) (Kd.R_types HO132.out BK126.out (by decide)) (fun _ hk => hk.2) (.slice Ao26 y133.length co26)) (fun _ hk => ⟨hk.1.2, hk.1.1⟩)) hg hat); have n4_ := Aside0.mk (Kd.R_after (ok := (fun k_ => nbk k_ Ao22 y130.length co22)) (by (with_reducible repeat (first | apply Kd.R_alloc | apply Kd.R_drewN | apply Kd.R_drew)); exact Kd.R_mono (Kd.R_far (p := ⟨gb126, 1, none⟩) (Kd.R_types HO135.out BK126.out (by decide)) (fun _ hk => hk.2) (.slice Ao26 y133.length co26)) (fun _ hk => ⟨hk.1.2, hk.1.1⟩)) hg hat); have n5_ := Aside0.mk (hb); have n6_ := Aside0.mk (ho); clear BK125; clear BK126; clear BK127; clear HO132; clear HO135; clear HB; clear HO_127002; have BK125 := n0_; have BK126 := n1_; have BK127 := n2_; have HO132 := n3_; have HO135 := n4_; have HB := n5_; have HO138 := n6_; clear n0_ n1_ n2_ n3_ n4_ n5_ n6_; clear ho hb hg hat; obtain ⟨Ao29, co29, eo29⟩ := Kd.R_slice HO138.out; subst eo29; have hcz30_0 : w28.cell? ⟨gb126, 0, none⟩ = some (.slice Ao22 y130.length co22) := (blk_cell BK126.out 0).trans rfl; have hcz30_1 : w28.cell? ⟨gb126, 1, none⟩ = some (.slice Ao26 y133.length co26) := (blk_cell BK126.out 1).trans rfl; have hcz30_2 : w28.cell? ⟨gb126, 2, none⟩ = some (u127002) := (blk_cell BK126.out 2).trans rfl; have hfz30_0 := blk_frozen BK126.out 0; have hfz30_1 := blk_frozen BK126.out 1; have hfz30_2 := blk_frozen BK126.out 2))
          go_roundg k1
          case measure => have := HK1.out; omega
          case rel => exact ⟨(wrap64 (x6_1 + 1)), (y130), (y133), (y136), (.slice Ao22 y130.length co22), (.slice Ao26 y133.length co26), (.slice Ao29 y136.length co29), a59_, H', ⟨by have := HK1.out; omega⟩, ⟨by (with_reducible repeat (first | apply Kd.R_alloc | apply Kd.R_drewN | apply Kd.R_drew)); exact Kd.R_mono (Kd.R_far (p := ⟨gb126, 2, none⟩) (Kd.R_types HO132.out BK126.out (by decide)) (fun _ hk => hk.2) (.slice Ao29 y136.length co29)) (fun _ hk => ⟨hk.1.1, hk.1.2⟩)⟩, ⟨by (with_reducible repeat (first | apply Kd.R_alloc | apply Kd.R_drewN | apply Kd.R_drew)); exact Kd.R_mono (Kd.R_far (p := ⟨gb126, 2, none⟩) (Kd.R_types HO135.out BK126.out (by decide)) (fun _ hk => hk.2) (.slice Ao29 y136.length co29)) (fun _ hk => ⟨hk.1.1, hk.1.2⟩)⟩, ⟨by (with_reducible repeat (first | apply Kd.R_alloc | apply Kd.R_drewN | apply Kd.R_drew)); exact Kd.R_mono (Kd.R_far (p := ⟨gb126, 2, none⟩) (Kd.R_types HO138.out BK126.out (by decide)) (fun _ hk => hk.2) (.slice Ao29 y136.length co29)) (fun _ hk => ⟨hk.1.1, hk.1.2⟩)⟩, ⟨by (with_reducible repeat (first | refine blk_drewN ?_ _ | refine blk_drew ?_ | refine blk_alloc ?_ _)); refine blk_far ?_ NB125_126.out _; (with_reducible repeat (first | refine blk_drewN ?_ _ | refine blk_drew ?_ | refine blk_alloc ?_ _)); exact BK125.out⟩, ⟨by (with_reducible repeat (first | refine blk_drewN ?_ _ | refine blk_drew ?_ | refine blk_alloc ?_ _)); refine blk_put (cs := #[.slice Ao22 y130.length co22, .slice Ao26 y133.length co26, u127002]) ?_ 2 _ rfl; (with_reducible repeat (first | refine blk_drewN ?_ _ | refine blk_drew ?_ | refine blk_alloc ?_ _)); exact BK126.out⟩, ⟨by repeat (first | (with_reducible first | exact HB.out | apply below_alloc | apply pw_below_drewN | apply below_drew1 | refine below_set ?_ GE125.out | refine below_set ?_ GE126.out | refine below_set ?_ GE127.out) | exact HB.out)⟩⟩
         ·rw [if_neg c14] at H
          exact absurd H (by simp)
        ·rw [if_neg c13] at H
         exact absurd H (by simp)
       ·rw [if_neg c12] at H
        exact absurd H (by simp)
      ·replace c11 := Bool.eq_false_iff.mpr c11
       subst c11
       have H1 : (if x127000_1.length < 70368744177664 then (if x127001_1.length < 70368744177664 then (if x127002_1.length < 70368744177664 then (spec_l07For.l0 k1 l0 a1 (wrap64 (x6_1 + 1)) (x127000_1 ++ [(rd_T118 l0 x6_1).f0.f0]) (x127001_1 ++ [(rd_T118 l0 x6_1).f0.f1]) (x127002_1 ++ [1])) else (none)) else (none)) else (none)) = some (r1, r2, r3) := by rw [if_neg (show ¬ (false = true) by decide)] at H; exact H
       clear H
       have H := H1
       clear H1
       by_cases c31 : x127000_1.length < 70368744177664
       ·rw [if_pos c31] at H
        have LMc31 := Aside0.mk c31
        clear c31
        obtain ⟨y139, hy139⟩ : ∃ y_ : List Int, y_ = (x127000_1 ++ [(rd_T118 l0 x6_1).f0.f0]) := ⟨_, rfl⟩
        replace H : (if x127001_1.length < 70368744177664 then (if x127002_1.length < 70368744177664 then (spec_l07For.l0 k1 l0 a1 (wrap64 (x6_1 + 1)) y139 (x127001_1 ++ [(rd_T118 l0 x6_1).f0.f1]) (x127002_1 ++ [1])) else (none)) else (none)) = some (r1, r2, r3) := by first | (rw [hy139]; with_reducible exact H) | (have H2_ := (Option.bind_some _ _).symm.trans H; rw [hy139]; with_reducible exact H2_) | (have H2_ := (Option.bind_some _ _).symm.trans H; with_reducible exact H2_) | with_reducible exact H | (rw [hy139]; exact H) | exact H
        have Ny139 := Aside0.mk hy139
        clear hy139
        by_cases c32 : x127001_1.length < 70368744177664
        ·rw [if_pos c32] at H
         have LMc32 := Aside0.mk c32
         clear c32
         obtain ⟨y142, hy142⟩ : ∃ y_ : List Int, y_ = (x127001_1 ++ [(rd_T118 l0 x6_1).f0.f1]) := ⟨_, rfl⟩
         replace H : (if x127002_1.length < 70368744177664 then (spec_l07For.l0 k1 l0 a1 (wrap64 (x6_1 + 1)) y139 y142 (x127002_1 ++ [1])) else (none)) = some (r1, r2, r3) := by first | (rw [hy142]; with_reducible exact H) | (have H2_ := (Option.bind_some _ _).symm.trans H; rw [hy142]; with_reducible exact H2_) | (have H2_ := (Option.bind_some _ _).symm.trans H; with_reducible exact H2_) | with_reducible exact H | (rw [hy142]; exact H) | exact H
         have Ny142 := Aside0.mk hy142
         clear hy142
         by_cases c33 : x127002_1.length < 70368744177664
         ·rw [if_pos c33] at H
          have LMc33 := Aside0.mk c33
          clear c33
          obtain ⟨y145, hy145⟩ : ∃ y_ : List Int, y_ = (x127002_1 ++ [1]) := ⟨_, rfl⟩
          replace H : (spec_l07For.l0 k1 l0 a1 (wrap64 (x6_1 + 1)) y139 y142 y145) = some (r1, r2, r3) := by first | (rw [hy145]; with_reducible exact H) | (have H2_ := (Option.bind_some _ _).symm.trans H; rw [hy145]; with_reducible exact H2_) | (have H2_ := (Option.bind_some _ _).symm.trans H; with_reducible exact H2_) | with_reducible exact H | (rw [hy145]; exact H) | exact H
          have Ny145 := Aside0.mk hy145
          clear hy145
          have H' := Aside0.mk H
          clear H
          go_wp2_with (first | ((with_reducible refine gate_dst (N := 7) rfl ?_); refine box_event ?hg (N := 7) ?hd (cs := #[.int .i16 0, .int .i16 0]) (t := 74) ?hr ?_; (case hd => rfl); (case hg => rfl); (case hr => first | (go_simp; done) | (go_simp; rfl)); intro gb127 hg w34 hbox hb; have n0_ := Aside0.mk (Kd.R_below a56_ hb); have n1_ := Aside0.mk (Kd.R_below a57_ hb); have n2_ := Aside0.mk (Kd.R_below a58_ hb); have n3_ := Aside0.mk (blk_below (g := gb125) a34_ hb); have n4_ := Aside0.mk (blk_below (g := gb126) a37_ hb); have n5_ := Aside0.mk (below_step a30_ hb); have n6_ := Aside0.mk (hbox); have n7_ := Aside0.mk ((a64_ : w.heap.size ≤ gb127)); have n8_ := Aside0.mk ((a64_ : w.heap.size ≤ gb127)); have n9_ := Aside0.mk ((a60_ : gb125 ≠ gb127)); have n10_ := Aside0.mk ((a61_ : gb127 ≠ gb125)); have n11_ := Aside0.mk ((a62_ : gb126 ≠ gb127)); have n12_ := Aside0.mk ((a63_ : gb127 ≠ gb126)); clear HO_127000; clear HO_127001; clear HO_127002; clear BK125; clear BK126; clear HB; have HO_127000 := n0_; have HO_127001 := n1_; have HO_127002 := n2_; have BK125 := n3_; have BK126 := n4_; have HB := n5_; have BK127 := n6_; have GW127 := n7_; have GE127 := n8_; have NB125_127 := n9_; have NB127_125 := n10_; have NB126_127 := n11_; have NB127_126 := n12_; clear n0_ n1_ n2_ n3_ n4_ n5_ n6_ n7_ n8_ n9_ n10_ n11_ n12_; clear hb hbox hg; have hnb35 := NB127_125.out; have hnc35 := NB125_127.out; have hnb36 := NB127_126.out; have hnc36 := NB126_127.out; have hcz37_0 : w34.cell? ⟨gb127, 0, none⟩ = some (.int .i16 0) := (blk_cell BK127.out 0).trans rfl; have hcz37_1 : w34.cell? ⟨gb127, 1, none⟩ = some (.int .i16 0) := (blk_cell BK127.out 1).trans rfl; have hfz37_0 := blk_frozen BK127.out 0; have hfz37_1 := blk_frozen BK127.out 1; have p128 : 0 ≤ (x6_1 : Int) := of_decide_eq_true a53_; have q128 : x6_1 < (l0.length : Int) := of_decide_eq_true a53_; obtain ⟨ad128, e128, hx128_0, hx128_1, hx128_2⟩ := at_T118 HR0.out x6_1 p128 q128; (try rw [← Nbq10.out] at hx128_2); cases e128; have hn128_0 : ad128.block ≠ gb127 := Nat.ne_of_lt (Nat.lt_of_lt_of_le a55_ GW127.out); have hn128_1 : ad128.block ≠ gb127 := Nat.ne_of_lt (Nat.lt_of_lt_of_le a55_ GW127.out); replace hx128_0 := (HB.out.cell (World.block_lt_of_cell? w _ hx128_0)).trans hx128_0; replace hx128_1 := (HB.out.cell (World.block_lt_of_cell? w _ hx128_1)).trans hx128_1; replace hx128_2 := (HB.out.cell (World.block_lt_of_cell? w _ hx128_2)).trans hx128_2; replace hx128_0 := (cell_far (p := ⟨gb127, 0, none⟩) a44_ (.int .i16 0)).trans hx128_0; replace hx128_1 := (cell_far (p := ⟨gb127, 0, none⟩) a44_ (.int .i16 0)).trans hx128_1; replace hx128_2 := (cell_far (p := ⟨gb127, 0, none⟩) a44_ (.int .i16 0)).trans hx128_2; replace hx128_0 := (cell_far (p := ⟨gb127, 1, none⟩) a45_ (.int .i16 0)).trans hx128_0; replace hx128_1 := (cell_far (p := ⟨gb127, 1, none⟩) a45_ (.int .i16 0)).trans hx128_1; replace hx128_2 := (cell_far (p := ⟨gb127, 1, none⟩) a45_ (.int .i16 0)).trans hx128_2; clear hn128_0; clear hn128_1; replace p128 := eq_true p128; replace q128 := eq_true q128; have p129 : 0 ≤ (x6_1 : Int) := of_decide_eq_true a53_; have q129 : x6_1 < (l0.length : Int) := of_decide_eq_true a53_; obtain ⟨ad129, e129, hx129_0, hx129_1, hx129_2⟩ := at_T118 HR0.out x6_1 p129 q129; (try rw [← Nbq10.out] at hx129_2); obtain rfl : ad128 = ad129 := (by injection e129); have hn129_0 : ad128.block ≠ gb127 := Nat.ne_of_lt (Nat.lt_of_lt_of_le a50_ GW127.out); have hn129_1 : ad128.block ≠ gb127 := Nat.ne_of_lt (Nat.lt_of_lt_of_le a50_ GW127.out); have hn129_2 : ad128.block ≠ gb127 := Nat.ne_of_lt (Nat.lt_of_lt_of_le a50_ GW127.out); have hn129_3 : ad128.block ≠ gb127 := Nat.ne_of_lt (Nat.lt_of_lt_of_le a50_ GW127.out); replace hx129_0 := (HB.out.cell (World.block_lt_of_cell? w _ hx129_0)).trans hx129_0; replace hx129_1 := (HB.out.cell (World.block_lt_of_cell? w _ hx129_1)).trans hx129_1; replace hx129_2 := (HB.out.cell (World.block_lt_of_cell? w _ hx129_2)).trans hx129_2; replace hx129_0 := (cell_far (p := ⟨gb127, 0, none⟩) a46_ (.int .i16 0)).trans hx129_0; replace hx129_1 := (cell_far (p := ⟨gb127, 0, none⟩) a46_ (.int .i16 0)).trans hx129_1; replace hx129_2 := (cell_far (p := ⟨gb127, 0, none⟩) a46_ (.int .i16 0)).trans hx129_2; replace hx129_0 := (cell_far (p := ⟨gb127, 1, none⟩) a47_ (.int .i16 0)).trans hx129_0; replace hx129_1 := (cell_far (p := ⟨gb127, 1, none⟩) a47_ (.int .i16 0)).trans hx129_1; replace hx129_2 := (cell_far (p := ⟨gb127, 1, none⟩) a47_ (.int .i16 0)).trans hx129_2; replace hx129_0 := (cell_far (p := ⟨gb127, 0, none⟩) a48_ (.int .i16 ((rd_T118 l0 x6_1).f0.f0))).trans hx129_0; replace hx129_1 := (cell_far (p := ⟨gb127, 0, none⟩) a48_ (.int .i16 ((rd_T118 l0 x6_1).f0.f0))).trans hx129_1; replace hx129_2 := (cell_far (p := ⟨gb127, 0, none⟩) a48_ (.int .i16 ((rd_T118 l0 x6_1).f0.f0))).trans hx129_2; replace hx129_0 := (cell_far (p := ⟨gb127, 1, none⟩) a49_ (.int .i16 ((rd_T118 l0 x6_1).f0.f1))).trans hx129_0; replace hx129_1 := (cell_far (p := ⟨gb127, 1, none⟩) a49_ (.int .i16 ((rd_T118 l0 x6_1).f0.f1))).trans hx129_1; replace hx129_2 := (cell_far (p := ⟨gb127, 1, none⟩) a49_ (.int .i16 ((rd_T118 l0 x6_1).f0.f1))).trans hx129_2; clear hn129_0; clear hn129_1; clear hn129_2; clear hn129_3; replace p129 := eq_true p129; replace q129 := eq_true q129; have hnb38 := NB126_125.out; have hnc38 := NB125_126.out; have hcz39_0 : w34.cell? ⟨gb126, 0, none⟩ = some (u127000) := (blk_cell BK126.out 0).trans rfl; have hcz39_1 : w34.cell? ⟨gb126, 1, none⟩ = some (u127001) := (blk_cell BK126.out 1).trans rfl; have hcz39_2 : w34.cell? ⟨gb126, 2, none⟩ = some (u127002) := (blk_cell BK126.out 2).trans rfl; have hfz39_0 := blk_frozen BK126.out 0; have hfz39_1 := blk_frozen BK126.out 1; have hfz39_2 := blk_frozen BK126.out 2) | ((with_reducible refine gate_builtin (b := .append) (xs := #[.tmp 31, .tmp 34]) rfl ?_); at_builtin; refine Kd.R_append (Kd.int .i16) (w0 := w) w.heap.size rfl (.tmp 31) (.tmp 34) 27 38 (.int .i16 0) 2 rfl Try.underlying27 info38 rfl (by decide) (by omega) u127000 x127000_1 ((rd_T118 l0 x6_1).f0.f0) [.int .i16 ((rd_T118 l0 x6_1).f0.f0)] (fun k_ => some k_ ≠ (u127001 : Value).ownBlock ∧ some k_ ≠ (u127002 : Value).ownBlock) (fun _ => False) rfl a54_ ?aP (fun _ hk => hk.elim) ?aF ?aO ?aB ?aS ?aL ?_; (case aP => exact rfl); (case aB => exact a29_); (case aF => exact (fun k_ hk => ⟨Kd.fresh' (Kd.R_lt a41_) k_ hk, Kd.fresh' (Kd.R_lt a42_) k_ hk⟩)); (case aO => exact a38_); (case aS => exact (below_size a29_)); (case aL => have := LMc31.out; omega); intro v140 w40 ho hb hg hat; rw [← Ny139.out] at ho; have n0_ := Aside0.mk (Kd.R_after (ok := (fun k_ => some k_ ≠ (u127002 : Value).ownBlock)) a39_ hg hat); have n1_ := Aside0.mk (Kd.R_after (ok := (fun k_ => some k_ ≠ (u127001 : Value).ownBlock)) a40_ hg hat); have n2_ := Aside0.mk (blk_grown (g := gb125) (o := .cells #[.slice none 0 0, .slice none 0 0, .slice none 0 0] 29 (0, 0)) a35_ hg (Kd.R_ne HO_127000.out BK125.out (by decide))); have n3_ := Aside0.mk (blk_grown (g := gb126) (o := .cells #[u127000, u127001, u127002] 29 (0, 0)) a36_ hg (Kd.R_ne HO_127000.out BK126.out (by decide))); have n4_ := Aside0.mk (blk_grown (g := gb127) (o := .cells #[.int .i16 ((rd_T118 l0 x6_1).f0.f0), .int .i16 ((rd_T118 l0 x6_1).f0.f1)] 74 (0, 0)) a31_ hg (Kd.R_ne HO_127000.out BK127.out (by decide))); have n5_ := Aside0.mk (hb); have n6_ := Aside0.mk (ho); clear HO_127001; clear HO_127002; clear BK125; clear BK126; clear BK127; clear HB; clear HO_127000; have HO_127001 := n0_; have HO_127002 := n1_; have BK125 := n2_; have BK126 := n3_; have BK127 := n4_; have HB := n5_; have HO141 := n6_; clear n0_ n1_ n2_ n3_ n4_ n5_ n6_; clear ho hb hg hat; obtain ⟨Ao41, co41, eo41⟩ := Kd.R_slice HO141.out; subst eo41; have hcz42_0 : w40.cell? ⟨gb126, 0, none⟩ = some (u127000) := (blk_cell BK126.out 0).trans rfl; have hcz42_1 : w40.cell? ⟨gb126, 1, none⟩ = some (u127001) := (blk_cell BK126.out 1).trans rfl; have hcz42_2 : w40.cell? ⟨gb126, 2, none⟩ = some (u127002) := (blk_cell BK126.out 2).trans rfl; have hfz42_0 := blk_frozen BK126.out 0; have hfz42_1 := blk_frozen BK126.out 1; have hfz42_2 := blk_frozen BK126.out 2; have hcz43_0 : w40.cell? ⟨gb127, 0, none⟩ = some (.int .i16 ((rd_T118 l0 x6_1).f0.f0)) := (blk_cell BK127.out 0).trans rfl; have hcz43_1 : w40.cell? ⟨gb127, 1, none⟩ = some (.int .i16 ((rd_T118 l0 x6_1).f0.f1)) := (blk_cell BK127.out 1).trans rfl; have hfz43_0 := blk_frozen BK127.out 0; have hfz43_1 := blk_frozen BK127.out 1) | ((with_reducible refine gate_builtin (b := .append) (xs := #[.tmp 38, .tmp 41]) rfl ?_); at_builtin; refine Kd.R_append (Kd.int .i16) (w0 := w) w.heap.size rfl (.tmp 38) (.tmp 41) 27 38 (.int .i16 0) 2 rfl Try.underlying27 info38 rfl (by decide) (by omega) u127001 x127001_1 ((rd_T118 l0 x6_1).f0.f1) [.int .i16 ((rd_T118 l0 x6_1).f0.f1)] (fun k_ => some k_ ≠ (u127002 : Value).ownBlock ∧ nbk k_ Ao41 y139.length co41) (fun _ => False) rfl a54_ ?aP (fun _ hk => hk.elim) ?aF ?aO ?aB ?aS ?aL ?_; (case aP => exact rfl); (case aB => exact a29_); (case aF => exact (fun k_ hk => ⟨Kd.fresh' (Kd.R_lt (by (with_reducible repeat (first | apply Kd.R_alloc | apply Kd.R_drewN | apply Kd.R_drew)); exact (Kd.R_mono (Kd.R_far (p := ⟨gb126, 0, none⟩) (Kd.R_types HO_127002.out BK126.out (by decide)) (fun _ hk => hk.2) (.slice Ao41 y139.length co41)) (fun _ h_ => h_.1)))) k_ hk, Kd.fresh' (Kd.R_lt (by (with_reducible repeat (first | apply Kd.R_alloc | apply Kd.R_drewN | apply Kd.R_drew)); exact (Kd.R_mono (Kd.R_far (p := ⟨gb126, 0, none⟩) (Kd.R_types HO141.out BK126.out (by decide)) (fun _ hk => hk.2) (.slice Ao41 y139.length co41)) (fun _ h_ => h_.1)))) k_ hk⟩)); (case aO => exact (by (with_reducible repeat (first | apply Kd.R_alloc | apply Kd.R_drewN | apply Kd.R_drew)); exact Kd.R_mono (Kd.R_far (p := ⟨gb126, 0, none⟩) (Kd.R_types HO_127001.out BK126.out (by decide)) (fun _ hk => hk.2) (.slice Ao41 y139.length co41)) (fun _ hk => ⟨hk.1.1, hk.1.2⟩))); (case aS => exact (below_size a29_)); (case aL => have := LMc32.out; omega); intro v143 w44 ho hb hg hat; rw [← Ny142.out] at ho; have n0_ := Aside0.mk (Kd.R_after (ok := (fun k_ => nbk k_ Ao41 y139.length co41)) (by (with_reducible repeat (first | apply Kd.R_alloc | apply Kd.R_drewN | apply Kd.R_drew)); exact Kd.R_mono (Kd.R_far (p := ⟨gb126, 0, none⟩) (Kd.R_types HO_127002.out BK126.out (by decide)) (fun _ hk => hk.2) (.slice Ao41 y139.length co41)) (fun _ hk => ⟨hk.1.2, hk.1.1⟩)) hg hat); have n1_ := Aside0.mk (blk_grown (g := gb125) (o := .cells #[.slice none 0 0, .slice none 0 0, .slice none 0 0] 29 (0, 0)) a32_ hg (Kd.R_ne HO_127001.out BK125.out (by decide))); have n2_ := Aside0.mk (blk_grown (g := gb126) (o := .cells #[.slice Ao41 y139.length co41, u127001, u127002] 29 (0, 0)) a43_ hg (Kd.R_ne HO_127001.out BK126.out (by decide))); have n3_ := Aside0.mk (blk_grown (g := gb127) (o := .cells #[.int .i16 ((rd_T118 l0 x6_1).f0.f0), .int .i16 ((rd_T118 l0 x6_1).f0.f1)] 74 (0, 0)) a33_ hg (Kd.R_ne HO_127001.out BK127.out (by decide))); have n4_ := Aside0.mk (Kd.R_after (ok := (fun k_ => some k_ ≠ (u127002 : Value).ownBlock)) (by (with_reducible repeat (first | apply Kd.R_alloc | apply Kd.R_drewN | apply Kd.R_drew)); exact Kd.R_mono (Kd.R_far (p := ⟨gb126, 0, none⟩) (Kd.R_types HO141.out BK126.out (by decide)) (fun _ hk => hk.2) (.slice Ao41 y139.length co41)) (fun _ hk => ⟨hk.1.2, hk.1.1⟩)) hg hat); have n5_ := Aside0.mk (hb); have n6_ := Aside0.mk (ho); clear HO_127002; clear BK125; clear BK126; clear BK127; clear HO141; clear HB; clear HO_127001; have HO_127002 := n0_; have BK125 := n1_; have BK126 := n2_; have BK127 := n3_; have HO141 := n4_; have HB := n5_; have HO144 := n6_; clear n0_ n1_ n2_ n3_ n4_ n5_ n6_; clear ho hb hg hat; obtain ⟨Ao45, co45, eo45⟩ := Kd.R_slice HO144.out; subst eo45; have hcz46_0 : w44.cell? ⟨gb126, 0, none⟩ = some (.slice Ao41 y139.length co41) := (blk_cell BK126.out 0).trans rfl; have hcz46_1 : w44.cell? ⟨gb126, 1, none⟩ = some (u127001) := (blk_cell BK126.out 1).trans rfl; have hcz46_2 : w44.cell? ⟨gb126, 2, none⟩ = some (u127002) := (blk_cell BK126.out 2).trans rfl; have hfz46_0 := blk_frozen BK126.out 0; have hfz46_1 := blk_frozen BK126.out 1; have hfz46_2 := blk_frozen BK126.out 2) | ((with_reducible refine gate_builtin (b := .append) (xs := #[.tmp 45, .tmp 47]) rfl ?_); at_builtin; refine Kd.R_append (Kd.int .i16) (w0 := w) w.heap.size rfl (.tmp 45) (.tmp 47) 27 38 (.int .i16 0) 2 rfl Try.underlying27 info38 rfl (by decide) (by omega) u127002 x127002_1 1 [.int .i16 1] (fun k_ => nbk k_ Ao41 y139.length co41 ∧ nbk k_ Ao45 y142.length co45) (fun _ => False) rfl a54_ ?aP (fun _ hk => hk.elim) ?aF ?aO ?aB ?aS ?aL ?_; (case aP => exact rfl); (case aB => exact a29_); (case aF => exact (fun k_ hk => ⟨Kd.fresh' (Kd.R_lt (by (with_reducible repeat (first | apply Kd.R_alloc | apply Kd.R_drewN | apply Kd.R_drew)); exact (Kd.R_mono (Kd.R_far (p := ⟨gb126, 1, none⟩) (Kd.R_types HO141.out BK126.out (by decide)) (fun _ hk => hk.2) (.slice Ao45 y142.length co45)) (fun _ h_ => h_.1)))) k_ hk, Kd.fresh' (Kd.R_lt (by (with_reducible repeat (first | apply Kd.R_alloc | apply Kd.R_drewN | apply Kd.R_drew)); exact (Kd.R_mono (Kd.R_far (p := ⟨gb126, 1, none⟩) (Kd.R_types HO144.out BK126.out (by decide)) (fun _ hk => hk.2) (.slice Ao45 y142.length co45)) (fun _ h_ => h_.1)))) k_ hk⟩)); (case aO => exact (by (with_reducible repeat (first | apply Kd.R_alloc | apply Kd.R_drewN | apply Kd.R_drew)); exact Kd.R_mono (Kd.R_far (p := ⟨gb126, 1, none⟩) (Kd.R_types HO_127002.out BK126.out (by decide)) (fun _ hk => hk.2) (.slice Ao45 y142.length co45)) (fun _ hk => ⟨hk.1.1, hk.1.2⟩))); (case aS => exact (below_size a29_)); (case aL => have := LMc33.out; omega); intro v146 w47 ho hb hg hat; rw [← Ny145.out] at ho; have n0_ := Aside0.mk (blk_grown (g := gb125) (o := .cells #[.slice none 0 0, .slice none 0 0, .slice none 0 0] 29 (0, 0)) a32_ hg (Kd.R_ne HO_127002.out BK125.out (by decide))); have n1_ := Aside0.mk (blk_grown (g := gb126) (o := .cells #[.slice Ao41 y139.length co41, .slice Ao45 y142.length co45, u127002] 29 (0, 0)) (by (with_reducible repeat (first | refine blk_drewN ?_ _ | refine blk_drew ?_ | refine blk_alloc ?_ _)); refine blk_put (cs := #[.slice Ao41 y139.length co41, u127001, u127002]) ?_ 1 _ rfl; (with_reducible repeat (first | refine blk_drewN ?_ _ | refine blk_drew ?_ | refine blk_alloc ?_ _)); exact BK126.out) hg (Kd.R_ne HO_127002.out BK126.out (by decide))); have n2_ := Aside0.mk (blk_grown (g := gb127) (o := .cells #[.int .i16 ((rd_T118 l0 x6_1).f0.f0), .int .i16 ((rd_T118 l0 x6_1).f0.f1)] 74 (0, 0)) a33_ hg (Kd.R_ne HO_127002.out BK127.out (by decide))); have n3_ := Aside0.mk (Kd.R_after (ok := (fun k_ => nbk k_ Ao45 y142.length co45)) (by (with_reducible repeat (first | apply Kd.R_alloc | apply Kd.R_drewN | apply Kd.R_drew)); exact Kd.R_mono (Kd.R_far (p := ⟨gb126, 1, none⟩) (Kd.R_types HO141.out BK126.out (by decide)) (fun _ hk => hk.2) (.slice Ao45 y142.length co45)) (fun _ hk => ⟨hk.1.2, hk.1.1⟩)) hg hat); have n4_ := Aside0.mk (Kd.R_after (ok := (fun k_ => nbk k_ Ao41 y139.length co41)) (by (with_reducible repeat (first | apply Kd.R_alloc | apply Kd.R_drewN | apply Kd.R_drew)); exact Kd.R_mono (Kd.R_far (p := ⟨gb126, 1, none⟩) (Kd.R_types HO144.out BK126.out (by decide)) (fun _ hk => hk.2) (.slice Ao45 y142.length co45)) (fun _ hk => ⟨hk.1.2, hk.1.1⟩)) hg hat); have n5_ := Aside0.mk (hb); have n6_ := Aside0.mk (ho); clear BK125; clear BK126; clear BK127; clear HO141; clear HO144; clear HB; clear HO_127002; have BK125 := n0_; have BK126 := n1_; have BK127 := n2_; have HO141 := n3_; have HO144 := n4_; have HB := n5_; have HO147 := n6_; clear n0_ n1_ n2_ n3_ n4_ n5_ n6_; clear ho hb hg hat; obtain ⟨Ao48, co48, eo48⟩ := Kd.R_slice HO147.out; subst eo48; have hcz49_0 : w47.cell? ⟨gb126, 0, none⟩ = some (.slice Ao41 y139.length co41) := (blk_cell BK126.out 0).trans rfl; have hcz49_1 : w47.cell? ⟨gb126, 1, none⟩ = some (.slice Ao45 y142.length co45) := (blk_cell BK126.out 1).trans rfl; have hcz49_2 : w47.cell? ⟨gb126, 2, none⟩ = some (u127002) := (blk_cell BK126.out 2).trans rfl; have hfz49_0 := blk_frozen BK126.out 0; have hfz49_1 := blk_frozen BK126.out 1; have hfz49_2 := blk_frozen BK126.out 2))
          go_roundg k1
          case measure => have := HK1.out; omega
          case rel => exact ⟨(wrap64 (x6_1 + 1)), (y139), (y142), (y145), (.slice Ao41 y139.length co41), (.slice Ao45 y142.length co45), (.slice Ao48 y145.length co48), a59_, H', ⟨by have := HK1.out; omega⟩, ⟨by (with_reducible repeat (first | apply Kd.R_alloc | apply Kd.R_drewN | apply Kd.R_drew)); exact Kd.R_mono (Kd.R_far (p := ⟨gb126, 2, none⟩) (Kd.R_types HO141.out BK126.out (by decide)) (fun _ hk => hk.2) (.slice Ao48 y145.length co48)) (fun _ hk => ⟨hk.1.1, hk.1.2⟩)⟩, ⟨by (with_reducible repeat (first | apply Kd.R_alloc | apply Kd.R_drewN | apply Kd.R_drew)); exact Kd.R_mono (Kd.R_far (p := ⟨gb126, 2, none⟩) (Kd.R_types HO144.out BK126.out (by decide)) (fun _ hk => hk.2) (.slice Ao48 y145.length co48)) (fun _ hk => ⟨hk.1.1, hk.1.2⟩)⟩, ⟨by (with_reducible repeat (first | apply Kd.R_alloc | apply Kd.R_drewN | apply Kd.R_drew)); exact Kd.R_mono (Kd.R_far (p := ⟨gb126, 2, none⟩) (Kd.R_types HO147.out BK126.out (by decide)) (fun _ hk => hk.2) (.slice Ao48 y145.length co48)) (fun _ hk => ⟨hk.1.1, hk.1.2⟩)⟩, ⟨by (with_reducible repeat (first | refine blk_drewN ?_ _ | refine blk_drew ?_ | refine blk_alloc ?_ _)); refine blk_far ?_ NB125_126.out _; (with_reducible repeat (first | refine blk_drewN ?_ _ | refine blk_drew ?_ | refine blk_alloc ?_ _)); exact BK125.out⟩, ⟨by (with_reducible repeat (first | refine blk_drewN ?_ _ | refine blk_drew ?_ | refine blk_alloc ?_ _)); refine blk_put (cs := #[.slice Ao41 y139.length co41, .slice Ao45 y142.length co45, u127002]) ?_ 2 _ rfl; (with_reducible repeat (first | refine blk_drewN ?_ _ | refine blk_drew ?_ | refine blk_alloc ?_ _)); exact BK126.out⟩, ⟨by repeat (first | (with_reducible first | exact HB.out | apply below_alloc | apply pw_below_drewN | apply below_drew1 | refine below_set ?_ GE125.out | refine below_set ?_ GE126.out | refine below_set ?_ GE127.out) | exact HB.out)⟩⟩
         ·rw [if_neg c33] at H
          exact absurd H (by simp)
        ·rw [if_neg c32] at H
         exact absurd H (by simp)
       ·rw [if_neg c31] at H
        exact absurd H (by simp)
     ·rw [if_neg c9] at H
      exact absurd H (by simp)
    ·rw [if_neg c8] at H
     have c8b0 : decide (x6_1 < (l0.length : Int)) = false := decide_eq_false c8
     clear c8
     by_cases c50 : x127000_1.length < 70368744177664
     ·rw [if_pos c50] at H
      have LMc50 := Aside0.mk c50
      clear c50
      obtain ⟨y148, hy148⟩ : ∃ y_ : List Int, y_ = (x127000_1 ++ [0]) := ⟨_, rfl⟩
      replace H : (if x127001_1.length < 70368744177664 then (if x127002_1.length < 70368744177664 then (spec_l07For.l0 k1 l0 a1 (wrap64 (x6_1 + 1)) y148 (x127001_1 ++ [0]) (x127002_1 ++ [1])) else (none)) else (none)) = some (r1, r2, r3) := by first | (rw [hy148]; with_reducible exact H) | (have H2_ := (Option.bind_some _ _).symm.trans H; rw [hy148]; with_reducible exact H2_) | (have H2_ := (Option.bind_some _ _).symm.trans H; with_reducible exact H2_) | with_reducible exact H | (rw [hy148]; exact H) | exact H
      have Ny148 := Aside0.mk hy148
      clear hy148
      by_cases c51 : x127001_1.length < 70368744177664
      ·rw [if_pos c51] at H
       have LMc51 := Aside0.mk c51
       clear c51
       obtain ⟨y151, hy151⟩ : ∃ y_ : List Int, y_ = (x127001_1 ++ [0]) := ⟨_, rfl⟩
       replace H : (if x127002_1.length < 70368744177664 then (spec_l07For.l0 k1 l0 a1 (wrap64 (x6_1 + 1)) y148 y151 (x127002_1 ++ [1])) else (none)) = some (r1, r2, r3) := by first | (rw [hy151]; with_reducible exact H) | (have H2_ := (Option.bind_some _ _).symm.trans H; rw [hy151]; with_reducible exact H2_) | (have H2_ := (Option.bind_some _ _).symm.trans H; with_reducible exact H2_) | with_reducible exact H | (rw [hy151]; exact H) | exact H
       have Ny151 := Aside0.mk hy151
       clear hy151
       by_cases c52 : x127002_1.length < 70368744177664
       ·rw [if_pos c52] at H
        have LMc52 := Aside0.mk c52
        clear c52
        obtain ⟨y154, hy154⟩ : ∃ y_ : List Int, y_ = (x127002_1 ++ [1]) := ⟨_, rfl⟩
        replace H : (spec_l07For.l0 k1 l0 a1 (wrap64 (x6_1 + 1)) y148 y151 y154) = some (r1, r2, r3) := by first | (rw [hy154]; with_reducible exact H) | (have H2_ := (Option.bind_some _ _).symm.trans H; rw [hy154]; with_reducible exact H2_) | (have H2_ := (Option.bind_some _ _).symm.trans H; with_reducible exact H2_) | with_reducible exact H | (rw [hy154]; exact H) | exact H
        have Ny154 := Aside0.mk hy154
        clear hy154
        have H' := Aside0.mk H
        clear H
        go_wp2_with (first | ((with_reducible refine gate_dst (N := 7) rfl ?_); refine box_event ?hg (N := 7) ?hd (cs := #[.int .i16 0, .int .i16 0]) (t := 74) ?hr ?_; (case hd => rfl); (case hg => rfl); (case hr => first | (go_simp; done) | (go_simp; rfl)); intro gb127 hg w53 hbox hb; have n0_ := Aside0.mk (Kd.R_below a56_ hb); have n1_ := Aside0.mk (Kd.R_below a57_ hb); have n2_ := Aside0.mk (Kd.R_below a58_ hb); have n3_ := Aside0.mk (blk_below (g := gb125) a34_ hb); have n4_ := Aside0.mk (blk_below (g := gb126) a37_ hb); have n5_ := Aside0.mk (below_step a30_ hb); have n6_ := Aside0.mk (hbox); have n7_ := Aside0.mk ((a64_ : w.heap.size ≤ gb127)); have n8_ := Aside0.mk ((a64_ : w.heap.size ≤ gb127)); have n9_ := Aside0.mk ((a60_ : gb125 ≠ gb127)); have n10_ := Aside0.mk ((a61_ : gb127 ≠ gb125)); have n11_ := Aside0.mk ((a62_ : gb126 ≠ gb127)); have n12_ := Aside0.mk ((a63_ : gb127 ≠ gb126)); clear HO_127000; clear HO_127001; clear HO_127002; clear BK125; clear BK126; clear HB; have HO_127000 := n0_; have HO_127001 := n1_; have HO_127002 := n2_; have BK125 := n3_; have BK126 := n4_; have HB := n5_; have BK127 := n6_; have GW127 := n7_; have GE127 := n8_; have NB125_127 := n9_; have NB127_125 := n10_; have NB126_127 := n11_; have NB127_126 := n12_; clear n0_ n1_ n2_ n3_ n4_ n5_ n6_ n7_ n8_ n9_ n10_ n11_ n12_; clear hb hbox hg; have hnb54 := NB127_125.out; have hnc54 := NB125_127.out; have hnb55 := NB127_126.out; have hnc55 := NB126_127.out; have hcz56_0 : w53.cell? ⟨gb127, 0, none⟩ = some (.int .i16 0) := (blk_cell BK127.out 0).trans rfl; have hcz56_1 : w53.cell? ⟨gb127, 1, none⟩ = some (.int .i16 0) := (blk_cell BK127.out 1).trans rfl; have hfz56_0 := blk_frozen BK127.out 0; have hfz56_1 := blk_frozen BK127.out 1; have hnb57 := NB126_125.out; have hnc57 := NB125_126.out; have hcz58_0 : w53.cell? ⟨gb126, 0, none⟩ = some (u127000) := (blk_cell BK126.out 0).trans rfl; have hcz58_1 : w53.cell? ⟨gb126, 1, none⟩ = some (u127001) := (blk_cell BK126.out 1).trans rfl; have hcz58_2 : w53.cell? ⟨gb126, 2, none⟩ = some (u127002) := (blk_cell BK126.out 2).trans rfl; have hfz58_0 := blk_frozen BK126.out 0; have hfz58_1 := blk_frozen BK126.out 1; have hfz58_2 := blk_frozen BK126.out 2) | ((with_reducible refine gate_builtin (b := .append) (xs := #[.tmp 31, .tmp 34]) rfl ?_); at_builtin; refine Kd.R_append (Kd.int .i16) (w0 := w) w.heap.size rfl (.tmp 31) (.tmp 34) 27 38 (.int .i16 0) 2 rfl Try.underlying27 info38 rfl (by decide) (by omega) u127000 x127000_1 0 [.int .i16 0] (fun k_ => some k_ ≠ (u127001 : Value).ownBlock ∧ some k_ ≠ (u127002 : Value).ownBlock) (fun _ => False) rfl a54_ ?aP (fun _ hk => hk.elim) ?aF ?aO ?aB ?aS ?aL ?_; (case aP => exact rfl); (case aB => exact a29_); (case aF => exact (fun k_ hk => ⟨Kd.fresh' (Kd.R_lt (by (with_reducible repeat (first | apply Kd.R_alloc | apply Kd.R_drewN | apply Kd.R_drew)); exact (Kd.R_mono (Kd.R_far (p := ⟨gb127, 1, none⟩) (Kd.R_far (p := ⟨gb127, 0, none⟩) (Kd.R_types HO_127001.out BK127.out (by decide)) (fun _ hk => hk.2) (.int .i16 0)) (fun _ hk => hk.2) (.int .i16 0)) (fun _ h_ => h_.1)))) k_ hk, Kd.fresh' (Kd.R_lt (by (with_reducible repeat (first | apply Kd.R_alloc | apply Kd.R_drewN | apply Kd.R_drew)); exact (Kd.R_mono (Kd.R_far (p := ⟨gb127, 1, none⟩) (Kd.R_far (p := ⟨gb127, 0, none⟩) (Kd.R_types HO_127002.out BK127.out (by decide)) (fun _ hk => hk.2) (.int .i16 0)) (fun _ hk => hk.2) (.int .i16 0)) (fun _ h_ => h_.1)))) k_ hk⟩)); (case aO => exact (by (with_reducible repeat (first | apply Kd.R_alloc | apply Kd.R_drewN | apply Kd.R_drew)); exact Kd.R_mono (Kd.R_far (p := ⟨gb127, 1, none⟩) (Kd.R_far (p := ⟨gb127, 0, none⟩) (Kd.R_types HO_127000.out BK127.out (by decide)) (fun _ hk => hk.2) (.int .i16 0)) (fun _ hk => hk.2) (.int .i16 0)) (fun _ hk => ⟨hk.1.1, hk.1.2⟩))); (case aS => exact (below_size a29_)); (case aL => have := LMc50.out; omega); intro v149 w59 ho hb hg hat; rw [← Ny148.out] at ho; have n0_ := Aside0.mk (Kd.R_after (ok := (fun k_ => some k_ ≠ (u127002 : Value).ownBlock)) (by (with_reducible repeat (first | apply Kd.R_alloc | apply Kd.R_drewN | apply Kd.R_drew)); exact Kd.R_mono (Kd.R_far (p := ⟨gb127, 1, none⟩) (Kd.R_far (p := ⟨gb127, 0, none⟩) (Kd.R_types HO_127001.out BK127.out (by decide)) (fun _ hk => hk.2) (.int .i16 0)) (fun _ hk => hk.2) (.int .i16 0)) (fun _ hk => ⟨hk.1.2, hk.1.1⟩)) hg hat); have n1_ := Aside0.mk (Kd.R_after (ok := (fun k_ => some k_ ≠ (u127001 : Value).ownBlock)) (by (with_reducible repeat (first | apply Kd.R_alloc | apply Kd.R_drewN | apply Kd.R_drew)); exact Kd.R_mono (Kd.R_far (p := ⟨gb127, 1, none⟩) (Kd.R_far (p := ⟨gb127, 0, none⟩) (Kd.R_types HO_127002.out BK127.out (by decide)) (fun _ hk => hk.2) (.int .i16 0)) (fun _ hk => hk.2) (.int .i16 0)) (fun _ hk => ⟨hk.1.2, hk.1.1⟩)) hg hat); have n2_ := Aside0.mk (blk_grown (g := gb125) (o := .cells #[.slice none 0 0, .slice none 0 0, .slice none 0 0] 29 (0, 0)) (by (with_reducible repeat (first | refine blk_drewN ?_ _ | refine blk_drew ?_ | refine blk_alloc ?_ _)); refine blk_far ?_ NB125_127.out _; (with_reducible repeat (first | refine blk_drewN ?_ _ | refine blk_drew ?_ | refine blk_alloc ?_ _)); refine blk_far ?_ NB125_127.out _; (with_reducible repeat (first | refine blk_drewN ?_ _ | refine blk_drew ?_ | refine blk_alloc ?_ _)); exact BK125.out) hg (Kd.R_ne HO_127000.out BK125.out (by decide))); have n3_ := Aside0.mk (blk_grown (g := gb126) (o := .cells #[u127000, u127001, u127002] 29 (0, 0)) (by (with_reducible repeat (first | refine blk_drewN ?_ _ | refine blk_drew ?_ | refine blk_alloc ?_ _)); refine blk_far ?_ NB126_127.out _; (with_reducible repeat (first | refine blk_drewN ?_ _ | refine blk_drew ?_ | refine blk_alloc ?_ _)); refine blk_far ?_ NB126_127.out _; (with_reducible repeat (first | refine blk_drewN ?_ _ | refine blk_drew ?_ | refine blk_alloc ?_ _)); exact BK126.out) hg (Kd.R_ne HO_127000.out BK126.out (by decide))); have n4_ := Aside0.mk (blk_grown (g := gb127) (o := .cells #[.int .i16 0, .int .i16 0] 74 (0, 0)) (by (with_reducible repeat (first | refine blk_drewN ?_ _ | refine blk_drew ?_ | refine blk_alloc ?_ _)); refine blk_put (cs := #[.int .i16 0, .int .i16 0]) ?_ 1 _ rfl; (with_reducible repeat (first | refine blk_drewN ?_ _ | refine blk_drew ?_ | refine blk_alloc ?_ _)); refine blk_put (cs := #[.int .i16 0, .int .i16 0]) ?_ 0 _ rfl; (with_reducible repeat (first | refine blk_drewN ?_ _ | refine blk_drew ?_ | refine blk_alloc ?_ _)); exact BK127.out) hg (Kd.R_ne HO_127000.out BK127.out (by decide))); have n5_ := Aside0.mk (hb); have n6_ := Aside0.mk (ho); clear HO_127001; clear HO_127002; clear BK125; clear BK126; clear BK127; clear HB; clear HO_127000; have HO_127001 := n0_; have HO_127002 := n1_; have BK125 := n2_; have BK126 := n3_; have BK127 := n4_; have HB := n5_; have HO150 := n6_; clear n0_ n1_ n2_ n3_ n4_ n5_ n6_; clear ho hb hg hat; obtain ⟨Ao60, co60, eo60⟩ := Kd.R_slice HO150.out; subst eo60; have hcz61_0 : w59.cell? ⟨gb126, 0, none⟩ = some (u127000) := (blk_cell BK126.out 0).trans rfl; have hcz61_1 : w59.cell? ⟨gb126, 1, none⟩ = some (u127001) := (blk_cell BK126.out 1).trans rfl; have hcz61_2 : w59.cell? ⟨gb126, 2, none⟩ = some (u127002) := (blk_cell BK126.out 2).trans rfl; have hfz61_0 := blk_frozen BK126.out 0; have hfz61_1 := blk_frozen BK126.out 1; have hfz61_2 := blk_frozen BK126.out 2; have hcz62_0 : w59.cell? ⟨gb127, 0, none⟩ = some (.int .i16 0) := (blk_cell BK127.out 0).trans rfl; have hcz62_1 : w59.cell? ⟨gb127, 1, none⟩ = some (.int .i16 0) := (blk_cell BK127.out 1).trans rfl; have hfz62_0 := blk_frozen BK127.out 0; have hfz62_1 := blk_frozen BK127.out 1) | ((with_reducible refine gate_builtin (b := .append) (xs := #[.tmp 38, .tmp 41]) rfl ?_); at_builtin; refine Kd.R_append (Kd.int .i16) (w0 := w) w.heap.size rfl (.tmp 38) (.tmp 41) 27 38 (.int .i16 0) 2 rfl Try.underlying27 info38 rfl (by decide) (by omega) u127001 x127001_1 0 [.int .i16 0] (fun k_ => some k_ ≠ (u127002 : Value).ownBlock ∧ nbk k_ Ao60 y148.length co60) (fun _ => False) rfl a54_ ?aP (fun _ hk => hk.elim) ?aF ?aO ?aB ?aS ?aL ?_; (case aP => exact rfl); (case aB => exact a29_); (case aF => exact (fun k_ hk => ⟨Kd.fresh' (Kd.R_lt (by (with_reducible repeat (first | apply Kd.R_alloc | apply Kd.R_drewN | apply Kd.R_drew)); exact (Kd.R_mono (Kd.R_far (p := ⟨gb126, 0, none⟩) (Kd.R_types HO_127002.out BK126.out (by decide)) (fun _ hk => hk.2) (.slice Ao60 y148.length co60)) (fun _ h_ => h_.1)))) k_ hk, Kd.fresh' (Kd.R_lt (by (with_reducible repeat (first | apply Kd.R_alloc | apply Kd.R_drewN | apply Kd.R_drew)); exact (Kd.R_mono (Kd.R_far (p := ⟨gb126, 0, none⟩) (Kd.R_types HO150.out BK126.out (by decide)) (fun _ hk => hk.2) (.slice Ao60 y148.length co60)) (fun _ h_ => h_.1)))) k_ hk⟩)); (case aO => exact (by (with_reducible repeat (first | apply Kd.R_alloc | apply Kd.R_drewN | apply Kd.R_drew)); exact Kd.R_mono (Kd.R_far (p := ⟨gb126, 0, none⟩) (Kd.R_types HO_127001.out BK126.out (by decide)) (fun _ hk => hk.2) (.slice Ao60 y148.length co60)) (fun _ hk => ⟨hk.1.1, hk.1.2⟩))); (case aS => exact (below_size a29_)); (case aL => have := LMc51.out; omega); intro v152 w63 ho hb hg hat; rw [← Ny151.out] at ho; have n0_ := Aside0.mk (Kd.R_after (ok := (fun k_ => nbk k_ Ao60 y148.length co60)) (by (with_reducible repeat (first | apply Kd.R_alloc | apply Kd.R_drewN | apply Kd.R_drew)); exact Kd.R_mono (Kd.R_far (p := ⟨gb126, 0, none⟩) (Kd.R_types HO_127002.out BK126.out (by decide)) (fun _ hk => hk.2) (.slice Ao60 y148.length co60)) (fun _ hk => ⟨hk.1.2, hk.1.1⟩)) hg hat); have n1_ := Aside0.mk (blk_grown (g := gb125) (o := .cells #[.slice none 0 0, .slice none 0 0, .slice none 0 0] 29 (0, 0)) a32_ hg (Kd.R_ne HO_127001.out BK125.out (by decide))); have n2_ := Aside0.mk (blk_grown (g := gb126) (o := .cells #[.slice Ao60 y148.length co60, u127001, u127002] 29 (0, 0)) a43_ hg (Kd.R_ne HO_127001.out BK126.out (by decide))); have n3_ := Aside0.mk (blk_grown (g := gb127) (o := .cells #[.int .i16 0, .int .i16 0] 74 (0, 0)) a33_ hg (Kd.R_ne HO_127001.out BK127.out (by decide))); have n4_ := Aside0.mk (Kd.R_after (ok := (fun k_ => some k_ ≠ (u127002 : Value).ownBlock)) (by (with_reducible repeat (first | apply Kd.R_alloc | apply Kd.R_drewN | apply Kd.R_drew)); exact Kd.R_mono (Kd.R_far (p := ⟨gb126, 0, none⟩) (Kd.R_types HO150.out BK126.out (by decide)) (fun _ hk => hk.2) (.slice Ao60 y148.length co60)) (fun _ hk => ⟨hk.1.2, hk.1.1⟩)) hg hat); have n5_ := Aside0.mk (hb); have n6_ := Aside0.mk (ho); clear HO_127002; clear BK125; clear BK126; clear BK127; clear HO150; clear HB; clear HO_127001; have HO_127002 := n0_; have BK125 := n1_; have BK126 := n2_; have BK127 := n3_; have HO150 := n4_; have HB := n5_; have HO153 := n6_; clear n0_ n1_ n2_ n3_ n4_ n5_ n6_; clear ho hb hg hat; obtain ⟨Ao64, co64, eo64⟩ := Kd.R_slice HO153.out; subst eo64; have hcz65_0 : w63.cell? ⟨gb126, 0, none⟩ = some (.slice Ao60 y148.length co60) := (blk_cell BK126.out 0).trans rfl; have hcz65_1 : w63.cell? ⟨gb126, 1, none⟩ = some (u127001) := (blk_cell BK126.out 1).trans rfl; have hcz65_2 : w63.cell? ⟨gb126, 2, none⟩ = some (u127002) := (blk_cell BK126.out 2).trans rfl; have hfz65_0 := blk_frozen BK126.out 0; have hfz65_1 := blk_frozen BK126.out 1; have hfz65_2 := blk_frozen BK126.out 2) | ((with_reducible refine gate_builtin (b := .append) (xs := #[.tmp 45, .tmp 47]) rfl ?_); at_builtin; refine Kd.R_append (Kd.int .i16) (w0 := w) w.heap.size rfl (.tmp 45) (.tmp 47) 27 38 (.int .i16 0) 2 rfl Try.underlying27 info38 rfl (by decide) (by omega) u127002 x127002_1 1 [.int .i16 1] (fun k_ => nbk k_ Ao60 y148.length co60 ∧ nbk k_ Ao64 y151.length co64) (fun _ => False) rfl a54_ ?aP (fun _ hk => hk.elim) ?aF ?aO ?aB ?aS ?aL ?_; (case aP => exact rfl); (case aB => exact a29_); (case aF => exact (fun k_ hk => ⟨Kd.fresh' (Kd.R_lt (by (with_reducible repeat (first | apply Kd.R_alloc | apply Kd.R_drewN | apply Kd.R_drew)); exact (Kd.R_mono (Kd.R_far (p := ⟨gb126, 1, none⟩) (Kd.R_types HO150.out BK126.out (by decide)) (fun _ hk => hk.2) (.slice Ao64 y151.length co64)) (fun _ h_ => h_.1)))) k_ hk, Kd.fresh' (Kd.R_lt (by (with_reducible repeat (first | apply Kd.R_alloc | apply Kd.R_drewN | apply Kd.R_drew)); exact (Kd.R_mono (Kd.R_far (p := ⟨gb126, 1, none⟩) (Kd.R_types HO153.out BK126.out (by decide)) (fun _ hk => hk.2) (.slice Ao64 y151.length co64)) (fun _ h_ => h_.1)))) k_ hk⟩)); (case aO => exact (by (with_reducible repeat (first | apply Kd.R_alloc | apply Kd.R_drewN | apply Kd.R_drew)); exact Kd.R_mono (Kd.R_far (p := ⟨gb126, 1, none⟩) (Kd.R_types HO_127002.out BK126.out (by decide)) (fun _ hk => hk.2) (.slice Ao64 y151.length co64)) (fun _ hk => ⟨hk.1.1, hk.1.2⟩))); (case aS => exact (below_size a29_)); (case aL => have := LMc52.out; omega); intro v155 w66 ho hb hg hat; rw [← Ny154.out] at ho; have n0_ := Aside0.mk (blk_grown (g := gb125) (o := .cells #[.slice none 0 0, .slice none 0 0, .slice none 0 0] 29 (0, 0)) a32_ hg (Kd.R_ne HO_127002.out BK125.out (by decide))); have n1_ := Aside0.mk (blk_grown (g := gb126) (o := .cells #[.slice Ao60 y148.length co60, .slice Ao64 y151.length co64, u127002] 29 (0, 0)) (by (with_reducible repeat (first | refine blk_drewN ?_ _ | refine blk_drew ?_ | refine blk_alloc ?_ _)); refine blk_put (cs := #[.slice Ao60 y148.length co60, u127001, u127002]) ?_ 1 _ rfl; (with_reducible repeat (first | refine blk_drewN ?_ _ | refine blk_drew ?_ | refine blk_alloc ?_ _)); exact BK126.out) hg (Kd.R_ne HO_127002.out BK126.out (by decide))); have n2_ := Aside0.mk (blk_grown (g := gb127) (o := .cells #[.int .i16 0, .int .i16 0] 74 (0, 0)) a33_ hg (Kd.R_ne HO_127002.out BK127.out (by decide))); have n3_ := Aside0.mk (Kd.R_after (ok := (fun k_ => nbk k_ Ao64 y151.length co64)) (by (with_reducible repeat (first | apply Kd.R_alloc | apply Kd.R_drewN | apply Kd.R_drew)); exact Kd.R_mono (Kd.R_far (p := ⟨gb126, 1, none⟩) (Kd.R_types HO150.out BK126.out (by decide)) (fun _ hk => hk.2) (.slice Ao64 y151.length co64)) (fun _ hk => ⟨hk.1.2, hk.1.1⟩)) hg hat); have n4_ := Aside0.mk (Kd.R_after (ok := (fun k_ => nbk k_ Ao60 y148.length co60)) (by (with_reducible repeat (first | apply Kd.R_alloc | apply Kd.R_drewN | apply Kd.R_drew)); exact Kd.R_mono (Kd.R_far (p := ⟨gb126, 1, none⟩) (Kd.R_types HO153.out BK126.out (by decide)) (fun _ hk => hk.2) (.slice Ao64 y151.length co64)) (fun _ hk => ⟨hk.1.2, hk.1.1⟩)) hg hat); have n5_ := Aside0.mk (hb); have n6_ := Aside0.mk (ho); clear BK125; clear BK126; clear BK127; clear HO150; clear HO153; clear HB; clear HO_127002; have BK125 := n0_; have BK126 := n1_; have BK127 := n2_; have HO150 := n3_; have HO153 := n4_; have HB := n5_; have HO156 := n6_; clear n0_ n1_ n2_ n3_ n4_ n5_ n6_; clear ho hb hg hat; obtain ⟨Ao67, co67, eo67⟩ := Kd.R_slice HO156.out; subst eo67; have hcz68_0 : w66.cell? ⟨gb126, 0, none⟩ = some (.slice Ao60 y148.length co60) := (blk_cell BK126.out 0).trans rfl; have hcz68_1 : w66.cell? ⟨gb126, 1, none⟩ = some (.slice Ao64 y151.length co64) := (blk_cell BK126.out 1).trans rfl; have hcz68_2 : w66.cell? ⟨gb126, 2, none⟩ = some (u127002) := (blk_cell BK126.out 2).trans rfl; have hfz68_0 := blk_frozen BK126.out 0; have hfz68_1 := blk_frozen BK126.out 1; have hfz68_2 := blk_frozen BK126.out 2))
        go_roundg k1
        case measure => have := HK1.out; omega
        case rel => exact ⟨(wrap64 (x6_1 + 1)), (y148), (y151), (y154), (.slice Ao60 y148.length co60), (.slice Ao64 y151.length co64), (.slice Ao67 y154.length co67), a59_, H', ⟨by have := HK1.out; omega⟩, ⟨by (with_reducible repeat (first | apply Kd.R_alloc | apply Kd.R_drewN | apply Kd.R_drew)); exact Kd.R_mono (Kd.R_far (p := ⟨gb126, 2, none⟩) (Kd.R_types HO150.out BK126.out (by decide)) (fun _ hk => hk.2) (.slice Ao67 y154.length co67)) (fun _ hk => ⟨hk.1.1, hk.1.2⟩)⟩, ⟨by (with_reducible repeat (first | apply Kd.R_alloc | apply Kd.R_drewN | apply Kd.R_drew)); exact Kd.R_mono (Kd.R_far (p := ⟨gb126, 2, none⟩) (Kd.R_types HO153.out BK126.out (by decide)) (fun _ hk => hk.2) (.slice Ao67 y154.length co67)) (fun _ hk => ⟨hk.1.1, hk.1.2⟩)⟩, ⟨by (with_reducible repeat (first | apply Kd.R_alloc | apply Kd.R_drewN | apply Kd.R_drew)); exact Kd.R_mono (Kd.R_far (p := ⟨gb126, 2, none⟩) (Kd.R_types HO156.out BK126.out (by decide)) (fun _ hk => hk.2) (.slice Ao67 y154.length co67)) (fun _ hk => ⟨hk.1.1, hk.1.2⟩)⟩, ⟨by (with_reducible repeat (first | refine blk_drewN ?_ _ | refine blk_drew ?_ | refine blk_alloc ?_ _)); refine blk_far ?_ NB125_126.out _; (with_reducible repeat (first | refine blk_drewN ?_ _ | refine blk_drew ?_ | refine blk_alloc ?_ _)); exact BK125.out⟩, ⟨by (with_reducible repeat (first | refine blk_drewN ?_ _ | refine blk_drew ?_ | refine blk_alloc ?_ _)); refine blk_put (cs := #[.slice Ao60 y148.length co60, .slice Ao64 y151.length co64, u127002]) ?_ 2 _ rfl; (with_reducible repeat (first | refine blk_drewN ?_ _ | refine blk_drew ?_ | refine blk_alloc ?_ _)); exact BK126.out⟩, ⟨by repeat (first | (with_reducible first | exact HB.out | apply below_alloc | apply pw_below_drewN | apply below_drew1 | refine below_set ?_ GE125.out | refine below_set ?_ GE126.out | refine below_set ?_ GE127.out) | exact HB.out)⟩⟩
       ·rw [if_neg c52] at H
        exact absurd H (by simp)
      ·rw [if_neg c51] at H
       exact absurd H (by simp)
     ·rw [if_neg c50] at H
      exact absurd H (by simp)
   ·rw [if_neg c7] at H
    have c7b0 : decide (x6_1 < a1) = false := decide_eq_false c7
    clear c7
    simp only [Option.some.injEq, Prod.mk.injEq] at H
    obtain ⟨rfl, rfl, rfl⟩ := H
    have hnb69 := NB126_125.out
    have hnc69 := NB125_126.out
    have hcz70_0 : wr.cell? ⟨gb126, 0, none⟩ = some (u127000) := (blk_cell BK126.out 0).trans rfl
    have hcz70_1 : wr.cell? ⟨gb126, 1, none⟩ = some (u127001) := (blk_cell BK126.out 1).trans rfl
    have hcz70_2 : wr.cell? ⟨gb126, 2, none⟩ = some (u127002) := (blk_cell BK126.out 2).trans rfl
    have hfz70_0 := blk_frozen BK126.out 0
    have hfz70_1 := blk_frozen BK126.out 1
    have hfz70_2 := blk_frozen BK126.out 2
    obtain ⟨Ao71, co71, eo71⟩ := Kd.R_slice HO_127000.out
    subst eo71
    have hcz72_0 : wr.cell? ⟨gb125, 0, none⟩ = some (.slice none 0 0) := (blk_cell BK125.out 0).trans rfl
    have hcz72_1 : wr.cell? ⟨gb125, 1, none⟩ = some (.slice none 0 0) := (blk_cell BK125.out 1).trans rfl
    have hcz72_2 : wr.cell? ⟨gb125, 2, none⟩ = some (.slice none 0 0) := (blk_cell BK125.out 2).trans rfl
    have hfz72_0 := blk_frozen BK125.out 0
    have hfz72_1 := blk_frozen BK125.out 1
    have hfz72_2 := blk_frozen BK125.out 2
    obtain ⟨Ao73, co73, eo73⟩ := Kd.R_slice HO_127001.out
    subst eo73
    obtain ⟨Ao74, co74, eo74⟩ := Kd.R_slice HO_127002.out
    subst eo74
    go_wp2
    refine bodyPost_ret (results_cell_row rfl _ _ gb125 29 #[.slice Ao71 x127000_1.length co71, .slice Ao73 x127001_1.length co73, .slice Ao74 x127002_1.length co74] (0, 0) _ rfl (by (with_reducible repeat (first | refine blk_drewN ?_ _ | refine blk_drew ?_ | refine blk_alloc ?_ _)); refine blk_put (cs := #[.slice Ao71 x127000_1.length co71, .slice Ao73 x127001_1.length co73, .slice none 0 0]) ?_ 2 _ rfl; (with_reducible repeat (first | refine blk_drewN ?_ _ | refine blk_drew ?_ | refine blk_alloc ?_ _)); refine blk_put (cs := #[.slice Ao71 x127000_1.length co71, .slice none 0 0, .slice none 0 0]) ?_ 1 _ rfl; (with_reducible repeat (first | refine blk_drewN ?_ _ | refine blk_drew ?_ | refine blk_alloc ?_ _)); refine blk_put (cs := #[.slice none 0 0, .slice none 0 0, .slice none 0 0]) ?_ 0 _ rfl; (with_reducible repeat (first | refine blk_drewN ?_ _ | refine blk_drew ?_ | refine blk_alloc ?_ _)); exact BK125.out) Try.underlying29 rfl (by kernel_rfl)) rfl ?_
    exact ⟨_, _, _, by first | rfl | (simp [errW_none, errW_some] <;> rfl) | (simp [*, errW_none, errW_some] <;> rfl), by (with_reducible repeat (first | apply Kd.R_alloc | apply Kd.R_drewN | apply Kd.R_drew)); exact Kd.R_mono (Kd.R_far (p := ⟨gb125, 2, none⟩) (Kd.R_far (p := ⟨gb125, 1, none⟩) (Kd.R_far (p := ⟨gb125, 0, none⟩) (Kd.R_types HO_127000.out BK125.out (by decide)) (fun _ hk => hk.2) (.slice Ao71 x127000_1.length co71)) (fun _ hk => hk.2) (.slice Ao73 x127001_1.length co73)) (fun _ hk => hk.2) (.slice Ao74 x127002_1.length co74)) (fun _ hk => ⟨hk.1.1, hk.1.2⟩), by (with_reducible repeat (first | apply Kd.R_alloc | apply Kd.R_drewN | apply Kd.R_drew)); exact Kd.R_mono (Kd.R_far (p := ⟨gb125, 2, none⟩) (Kd.R_far (p := ⟨gb125, 1, none⟩) (Kd.R_far (p := ⟨gb125, 0, none⟩) (Kd.R_types HO_127001.out BK125.out (by decide)) (fun _ hk => hk.2) (.slice Ao71 x127000_1.length co71)) (fun _ hk => hk.2) (.slice Ao73 x127001_1.length co73)) (fun _ hk => hk.2) (.slice Ao74 x127002_1.length co74)) (fun _ hk => ⟨hk.1.1, hk.1.2⟩), by (with_reducible repeat (first | apply Kd.R_alloc | apply Kd.R_drewN | apply Kd.R_drew)); exact Kd.R_mono (Kd.R_far (p := ⟨gb125, 2, none⟩) (Kd.R_far (p := ⟨gb125, 1, none⟩) (Kd.R_far (p := ⟨gb125, 0, none⟩) (Kd.R_types HO_127002.out BK125.out (by decide)) (fun _ hk => hk.2) (.slice Ao71 x127000_1.length co71)) (fun _ hk => hk.2) (.slice Ao73 x127001_1.length co73)) (fun _ hk => hk.2) (.slice Ao74 x127002_1.length co74)) (fun _ hk => ⟨hk.1.1, hk.1.2⟩), by repeat (first | (with_reducible first | exact HB.out | apply below_alloc | apply pw_below_drewN | apply below_drew1 | refine below_set ?_ GE125.out | refine below_set ?_ GE126.out) | exact HB.out)⟩

/-! ### steps of spec_MachineFor that come again: each is read where it is used -/
theorem a65_ {p : Prop} (h : p := by (with_reducible repeat (first | refine blk_drewN ?_ _ | refine blk_drew ?_ | refine blk_alloc ?_ _)); refine blk_put (cs := #[.slice none 0 0, .slice none 0 0, .slice none 0 0]) ?_ 2 _ rfl; (with_reducible repeat (first | refine blk_drewN ?_ _ | refine blk_drew ?_ | refine blk_alloc ?_ _)); refine blk_put (cs := #[.slice none 0 0, .slice none 0 0, .slice none 0 0]) ?_ 1 _ rfl; (with_reducible repeat (first | refine blk_drewN ?_ _ | refine blk_drew ?_ | refine blk_alloc ?_ _)); refine blk_put (cs := #[.slice none 0 0, .slice none 0 0, .slice none 0 0]) ?_ 0 _ rfl; (with_reducible repeat (first | refine blk_drewN ?_ _ | refine blk_drew ?_ | refine blk_alloc ?_ _)); exact BK157.out) : p := h
theorem a66_ {p : Prop} (h : p := by repeat (first | (with_reducible first | exact HB.out | apply below_alloc | apply pw_below_drewN | apply below_drew1 | refine below_set ?_ GE157.out) | exact HB.out)) : p := h
theorem a67_ {p : Prop} (h : p := by (try simp only [List.map_toArray, List.map_cons, List.map_nil]); first | done | rfl | (simp only [List.length_drop, List.length_take]; rfl)) : p := h
theorem a68_ {p : Prop} (h : p := by (with_reducible repeat (first | refine blk_drewN ?_ _ | refine blk_drew ?_ | refine blk_alloc ?_ _)); exact BK157.out) : p := h
theorem a69_ {p : Prop} (h : p := by repeat (first | (with_reducible first | exact HB.out | apply below_alloc | apply pw_below_drewN | apply below_drew1) | exact HB.out)) : p := h
theorem a70_ {p : Prop} (h : p := by first | (with_reducible assumption) | assumption) : p := h

/-! ### spec_MachineFor: function 52 -/
def spec_MachineFor.l0 : Nat → List (S118) → Int → Int → Option (List Int × List Int × List Int × Int)
  | 0, _, _, _ => none
  | k + 1, x0, x1, x6 => if x6 < (x0.length : Int) then (if 0 ≤ x6 then ((spec_l07Mark.f ((rd_T118 x0 x6).f0.f0) ((rd_T118 x0 x6).f0.f1)).bind fun t159 => (if t159 = true then (spec_MachineFor.l0 k x0 x1 (wrap64 (x6 + 1))) else (some (([] : List Int), ([] : List Int), ([] : List Int), 1)))) else (none)) else ((spec_l01Steps.f x1).bind fun t160 => (if t160 = true then (if (x0.length : Int) > x1 then (some (([] : List Int), ([] : List Int), ([] : List Int), 2)) else ((spec_l07For.f k x0 x1).bind fun bt161 => (some (bt161.1, bt161.2.1, bt161.2.2, 0)))) else (some (([] : List Int), ([] : List Int), ([] : List Int), 2))))
def spec_MachineFor.f (k : Nat) (l0 : List (S118)) (a1 : Int) : Option (List Int × List Int × List Int × Int) := spec_MachineFor.l0 k l0 a1 0
theorem spec_MachineFor.mono_l : ∀ k, (∀ y0 y1 y2, LeO (spec_MachineFor.l0 k y0 y1 y2) (spec_MachineFor.l0 (k + 1) y0 y1 y2))
  | 0 => fun _ _ _ r h => by simp [spec_MachineFor.l0] at h
  | k + 1 => by
    have ih0 := spec_MachineFor.mono_l k
    · intro y0 y1 y2
      unfold spec_MachineFor.l0
      repeat' first
      | (with_reducible exact ih0 _ _ _)
      | (with_reducible exact spec_l07For.mono _ _ _)
      | (with_reducible exact LeO.refl _)
      | (with_reducible exact LeO.none _)
      | (with_reducible refine LeO.ite ?_ ?_)
      | (with_reducible refine LeO.bind ?_ (fun _ => ?_))
      | exact ih0 _ _ _
      | exact spec_l07For.mono _ _ _
      | exact LeO.none _
      | refine LeO.ite ?_ ?_
      | refine LeO.bind ?_ (fun _ => ?_)
theorem spec_MachineFor.mono : ∀ a0 a1 k, LeO (spec_MachineFor.f k a0 a1) (spec_MachineFor.f (k + 1) a0 a1) := by
  intro a0 a1 k
  have ih0 := spec_MachineFor.mono_l k
  unfold spec_MachineFor.f
  repeat' first
      | (with_reducible exact ih0 _ _ _)
      | (with_reducible exact spec_l07For.mono _ _ _)
      | (with_reducible exact LeO.refl _)
      | (with_reducible exact LeO.none _)
      | (with_reducible refine LeO.ite ?_ ?_)
      | (with_reducible refine LeO.bind ?_ (fun _ => ?_))
      | exact ih0 _ _ _
      | exact spec_l07For.mono _ _ _
      | exact LeO.none _
      | refine LeO.ite ?_ ?_
      | refine LeO.bind ?_ (fun _ => ?_)
/-! ### spec_MachineFor: what follows is its proof -/

set_option maxHeartbeats 8000000 in
set_option maxRecDepth 100000 in
theorem spec_MachineFor.calls (k : Nat) (A0 : Option Addr) (c0 : Nat) (l0 : List (S118)) (a1 : Int) (r1 : List Int) (r2 : List Int) (r3 : List Int) (r4 : Int) (w : World) (hr0 : Kd.C k118 w A0 l0.length l0) (hc0 : l0.length ≤ c0) (h : spec_MachineFor.f k l0 a1 = some (r1, r2, r3, r4)) :
    Calls Try.prog 52 #[.slice A0 l0.length c0, .int .i64 a1] w fun e w' => ∃ v0_ v1_ v2_ : Value, e = .returned (.tuple #[.agg #[v0_, v1_, v2_], .int .i64 r4]) ∧ Kd.R (Kd.int .i16) 38 w' w.heap.size (fun k_ => some k_ ≠ (v1_ : Value).ownBlock ∧ some k_ ≠ (v2_ : Value).ownBlock) v0_ r1 ∧ Kd.R (Kd.int .i16) 38 w' w.heap.size (fun k_ => some k_ ≠ (v0_ : Value).ownBlock ∧ some k_ ≠ (v2_ : Value).ownBlock) v1_ r2 ∧ Kd.R (Kd.int .i16) 38 w' w.heap.size (fun k_ => some k_ ≠ (v0_ : Value).ownBlock ∧ some k_ ≠ (v1_ : Value).ownBlock) v2_ r3 ∧ Below w.heap.size w w' := by
 have hu29 := Try.underlying29
 have hu118 := Try.underlying118
 have hu74 := Try.underlying74
 have HR0 := Aside0.mk hr0
 have HC0 := Aside0.mk hc0
 clear hr0 hc0
 have HB := Aside0.mk (Below.refl w.heap.size w)
 have H : (spec_MachineFor.l0 k l0 a1 0) = some (r1, r2, r3, r4) := h
 clear h
 have H' := Aside0.mk H
 clear H
 go_enter Try.func52, Try.ntmps52
 go_wp2_with (first | ((with_reducible refine gate_dst (N := 4) rfl ?_); (try (refine gate_guard (by rfl) ?_; dsimp only)); refine box_event ?hg (N := 4) ?hd (cs := #[.slice none 0 0, .slice none 0 0, .slice none 0 0]) (t := 29) ?hr ?_; (case hd => rfl); (case hg => rfl); (case hr => first | (go_simp; done) | (go_simp; rfl)); intro gb157 hg w3 hbox hb; have n0_ := Aside0.mk (below_step a69_ hb); have n1_ := Aside0.mk (hbox); have n2_ := Aside0.mk ((by rw [hg]; exact (below_size a69_) : w.heap.size ≤ gb157)); have n3_ := Aside0.mk ((by rw [hg]; exact (below_size a69_) : w.heap.size ≤ gb157)); clear HB; have HB := n0_; have BK157 := n1_; have GW157 := n2_; have GE157 := n3_; clear n0_ n1_ n2_ n3_; clear hb hbox hg))
 go_loopg [6] k (fun kq v6 w' => ∃ (x6_1 : Int), v6 = .int .i64 x6_1 ∧ Aside0 (spec_MachineFor.l0 kq l0 a1 x6_1 = some (r1, r2, r3, r4)) ∧ Aside0 (kq ≤ k) ∧ Aside0 (w'.heap[gb157]? = some (.cells #[(.slice none 0 0), (.slice none 0 0), (.slice none 0 0)] 29 (0, 0))) ∧ Aside0 (Below w.heap.size w w'))
 case atStart => exact ⟨(0), (by first | rfl | (simp; done) | (simp [*]; done)), H', ⟨Nat.le_refl _⟩, ⟨by (with_reducible repeat (first | refine blk_drewN ?_ _ | refine blk_drew ?_ | refine blk_alloc ?_ _)); exact BK157.out⟩, ⟨by repeat (first | (with_reducible first | exact HB.out | apply below_alloc | apply pw_below_drewN | apply below_drew1 | refine below_set ?_ GE157.out) | exact HB.out)⟩⟩
 case round =>
  clear H'
  try clear p2
  obtain ⟨x6_1, rfl, HA, HK1, BK157, HB⟩ := hrel
  cases gk with
  | zero => exact absurd HA.out (by simp [spec_MachineFor.l0])
  | succ k1 =>
   have H := HA.out
   clear HA
   simp only [spec_MachineFor.l0] at H
   by_cases c4 : x6_1 < (l0.length : Int)
   ·rw [if_pos c4] at H
    have c4b0 : decide (x6_1 < (l0.length : Int)) = true := decide_eq_true c4
    clear c4
    by_cases c5 : 0 ≤ x6_1
    ·rw [if_pos c5] at H
     have c5b0 : decide (0 ≤ x6_1) = true := decide_eq_true c5
     clear c5
     replace H := Option.bind_eq_some_iff.mp H
     obtain ⟨t159, A60, H⟩ := H
     replace H : (if t159 = true then (spec_MachineFor.l0 k1 l0 a1 (wrap64 (x6_1 + 1))) else (some (([] : List Int), ([] : List Int), ([] : List Int), 1))) = some (r1, r2, r3, r4) := H
     have A6 := Aside0.mk A60
     clear A60
     by_cases c7 : t159 = true
     ·subst c7
      have H1 : (spec_MachineFor.l0 k1 l0 a1 (wrap64 (x6_1 + 1))) = some (r1, r2, r3, r4) := by rw [if_pos rfl] at H; exact H
      clear H
      have H := H1
      clear H1
      have H' := Aside0.mk H
      clear H
      have p158 : 0 ≤ (x6_1 : Int) := of_decide_eq_true a70_
      have q158 : x6_1 < (l0.length : Int) := of_decide_eq_true a70_
      obtain ⟨ad158, e158, hx158_0, hx158_1, hx158_2⟩ := at_T118 HR0.out x6_1 p158 q158
      cases e158
      replace hx158_0 := (HB.out.cell (World.block_lt_of_cell? w _ hx158_0)).trans hx158_0
      replace hx158_1 := (HB.out.cell (World.block_lt_of_cell? w _ hx158_1)).trans hx158_1
      replace hx158_2 := (HB.out.cell (World.block_lt_of_cell? w _ hx158_2)).trans hx158_2
      replace p158 := eq_true p158
      replace q158 := eq_true q158
      go_wp2_with (first | ((with_reducible refine gate_callee (f := 110) rfl ?_); refine goesL_ (some 18) rfl rfl Try.func110 (by kernel_rfl) rfl #[.agg #[.int .i16 ((rd_T118 l0 x6_1).f0.f0), .int .i16 ((rd_T118 l0 x6_1).f0.f1)]] rfl a67_ ?_; (with_reducible refine (spec_l07Mark.calls ((rd_T118 l0 x6_1).f0.f0) ((rd_T118 l0 x6_1).f0.f1) true _ A6.out).mono ?_); rintro e w8 ⟨rfl, hb⟩; refine ⟨_, rfl, ?_⟩; have n0_ := Aside0.mk (blk_below (g := gb157) a68_ hb); have n1_ := Aside0.mk (below_step a66_ hb); clear BK157; clear HB; have BK157 := n0_; have HB := n1_; clear n0_ n1_; (try clear hb); (try clear hb2); (try clear hk); (try clear hi)))
      go_roundg k1
      case measure => have := HK1.out; omega
      case rel => exact ⟨(wrap64 (x6_1 + 1)), (by first | rfl | (simp; done) | (simp [*]; done)), H', ⟨by have := HK1.out; omega⟩, ⟨by (with_reducible repeat (first | refine blk_drewN ?_ _ | refine blk_drew ?_ | refine blk_alloc ?_ _)); exact BK157.out⟩, ⟨by repeat (first | (with_reducible first | exact HB.out | apply below_alloc | apply pw_below_drewN | apply below_drew1 | refine below_set ?_ GE157.out) | exact HB.out)⟩⟩
     ·replace c7 := Bool.eq_false_iff.mpr c7
      subst c7
      have H1 : (some (([] : List Int), ([] : List Int), ([] : List Int), 1)) = some (r1, r2, r3, r4) := by rw [if_neg (show ¬ (false = true) by decide)] at H; exact H
      clear H
      have H := H1
      clear H1
      simp only [Option.some.injEq, Prod.mk.injEq] at H
      obtain ⟨rfl, rfl, rfl, rfl⟩ := H
      have p158 : 0 ≤ (x6_1 : Int) := of_decide_eq_true a70_
      have q158 : x6_1 < (l0.length : Int) := of_decide_eq_true a70_
      obtain ⟨ad158, e158, hx158_0, hx158_1, hx158_2⟩ := at_T118 HR0.out x6_1 p158 q158
      cases e158
      replace hx158_0 := (HB.out.cell (World.block_lt_of_cell? w _ hx158_0)).trans hx158_0
      replace hx158_1 := (HB.out.cell (World.block_lt_of_cell? w _ hx158_1)).trans hx158_1
      replace hx158_2 := (HB.out.cell (World.block_lt_of_cell? w _ hx158_2)).trans hx158_2
      replace p158 := eq_true p158
      replace q158 := eq_true q158
      go_wp2_with (first | ((with_reducible refine gate_callee (f := 110) rfl ?_); refine goesL_ (some 18) rfl rfl Try.func110 (by kernel_rfl) rfl #[.agg #[.int .i16 ((rd_T118 l0 x6_1).f0.f0), .int .i16 ((rd_T118 l0 x6_1).f0.f1)]] rfl a67_ ?_; (with_reducible refine (spec_l07Mark.calls ((rd_T118 l0 x6_1).f0.f0) ((rd_T118 l0 x6_1).f0.f1) false _ A6.out).mono ?_); rintro e w9 ⟨rfl, hb⟩; refine ⟨_, rfl, ?_⟩; have n0_ := Aside0.mk (blk_below (g := gb157) a68_ hb); have n1_ := Aside0.mk (below_step a66_ hb); clear BK157; clear HB; have BK157 := n0_; have HB := n1_; clear n0_ n1_; (try clear hb); (try clear hb2); (try clear hk); (try clear hi); have hcz10_0 : w9.cell? ⟨gb157, 0, none⟩ = some (.slice none 0 0) := (blk_cell BK157.out 0).trans rfl; have hcz10_1 : w9.cell? ⟨gb157, 1, none⟩ = some (.slice none 0 0) := (blk_cell BK157.out 1).trans rfl; have hcz10_2 : w9.cell? ⟨gb157, 2, none⟩ = some (.slice none 0 0) := (blk_cell BK157.out 2).trans rfl; have hfz10_0 := blk_frozen BK157.out 0; have hfz10_1 := blk_frozen BK157.out 1; have hfz10_2 := blk_frozen BK157.out 2))
      refine bodyPost_ret (results_ct rfl _ _ gb157 29 #[.slice none 0 0, .slice none 0 0, .slice none 0 0] (0, 0) _ rfl a65_ Try.underlying29 rfl (by kernel_rfl)) rfl ?_
      exact ⟨_, _, _, by first | rfl | (simp [errW_none, errW_some] <;> rfl) | (simp [*, errW_none, errW_some] <;> rfl), by first | exact Kd.R_nil _ _ _ _ _ | exact Kd.N_nil _ _ _ _ _ | exact Kd.V_nil _ _ _ _ _ | exact Kd.Q_nil _ _ _ _ _ | exact Kd.S_nil _ _ _ _ _, by first | exact Kd.R_nil _ _ _ _ _ | exact Kd.N_nil _ _ _ _ _ | exact Kd.V_nil _ _ _ _ _ | exact Kd.Q_nil _ _ _ _ _ | exact Kd.S_nil _ _ _ _ _, by first | exact Kd.R_nil _ _ _ _ _ | exact Kd.N_nil _ _ _ _ _ | exact Kd.V_nil _ _ _ _ _ | exact Kd.Q_nil _ _ _ _ _ | exact Kd.S_nil _ _ _ _ _, by repeat (first | (with_reducible first | exact HB.out | apply below_alloc | apply pw_below_drewN | apply below_drew1 | refine below_set ?_ GE157.out) | exact HB.out)⟩
    ·rw [if_neg c5] at H
     exact absurd H (by simp)
   ·rw [if_neg c4] at H
    have c4b0 : decide (x6_1 < (l0.length : Int)) = false := decide_eq_false c4
    clear c4
    replace H := Option.bind_eq_some_iff.mp H
    obtain ⟨t160, A110, H⟩ := H
    replace H : (if t160 = true then (if (l0.length : Int) > a1 then (some (([] : List Int), ([] : List Int), ([] : List Int), 2)) else ((spec_l07For.f k1 l0 a1).bind fun bt161 => (some (bt161.1, bt161.2.1, bt161.2.2, 0)))) else (some (([] : List Int), ([] : List Int), ([] : List Int), 2))) = some (r1, r2, r3, r4) := H
    have A11 := Aside0.mk A110
    clear A110
    by_cases c12 : t160 = true
    ·subst c12
     have H1 : (if (l0.length : Int) > a1 then (some (([] : List Int), ([] : List Int), ([] : List Int), 2)) else ((spec_l07For.f k1 l0 a1).bind fun bt161 => (some (bt161.1, bt161.2.1, bt161.2.2, 0)))) = some (r1, r2, r3, r4) := by rw [if_pos rfl] at H; exact H
     clear H
     have H := H1
     clear H1
     by_cases c13 : (l0.length : Int) > a1
     ·rw [if_pos c13] at H
      have c13b0 : decide (a1 < (l0.length : Int)) = true := decide_eq_true c13
      clear c13
      simp only [Option.some.injEq, Prod.mk.injEq] at H
      obtain ⟨rfl, rfl, rfl, rfl⟩ := H
      go_wp2_with (first | ((with_reducible refine gate_callee (f := 115) rfl ?_); refine goesL_ (some 22) rfl rfl Try.func115 (by kernel_rfl) rfl #[.int .i64 a1] rfl a67_ ?_; (with_reducible refine (spec_l01Steps.calls a1 true _ A11.out).mono ?_); rintro e w' ⟨rfl, ⟨nd, rfl⟩⟩; refine ⟨_, rfl, ?_⟩; (try rw [World.drewN_drewN]); (try rw [World.drewN_drewN]); (try rw [World.drewN_drewN]); (try (rw [drewN_self wr]; generalize hq_ : World.drewN wr _ = wr; have n0_ : Aside0 (wr.heap[gb157]? = some (.cells #[.slice none 0 0, .slice none 0 0, .slice none 0 0] 29 (0, 0))) := ⟨by rw [← hq_]; exact a68_⟩; have n1_ : Aside0 (Below w.heap.size w wr) := ⟨by rw [← hq_]; exact a66_⟩; clear BK157 HB hq_; have BK157 := n0_; have HB := n1_; clear n0_ n1_)); have hcz14_0 : wr.cell? ⟨gb157, 0, none⟩ = some (.slice none 0 0) := (blk_cell BK157.out 0).trans rfl; have hcz14_1 : wr.cell? ⟨gb157, 1, none⟩ = some (.slice none 0 0) := (blk_cell BK157.out 1).trans rfl; have hcz14_2 : wr.cell? ⟨gb157, 2, none⟩ = some (.slice none 0 0) := (blk_cell BK157.out 2).trans rfl; have hfz14_0 := blk_frozen BK157.out 0; have hfz14_1 := blk_frozen BK157.out 1; have hfz14_2 := blk_frozen BK157.out 2))
      refine bodyPost_ret (results_ct rfl _ _ gb157 29 #[.slice none 0 0, .slice none 0 0, .slice none 0 0] (0, 0) _ rfl a65_ Try.underlying29 rfl (by kernel_rfl)) rfl ?_
      exact ⟨_, _, _, by first | rfl | (simp [errW_none, errW_some] <;> rfl) | (simp [*, errW_none, errW_some] <;> rfl), by first | exact Kd.R_nil _ _ _ _ _ | exact Kd.N_nil _ _ _ _ _ | exact Kd.V_nil _ _ _ _ _ | exact Kd.Q_nil _ _ _ _ _ | exact Kd.S_nil _ _ _ _ _, by first | exact Kd.R_nil _ _ _ _ _ | exact Kd.N_nil _ _ _ _ _ | exact Kd.V_nil _ _ _ _ _ | exact Kd.Q_nil _ _ _ _ _ | exact Kd.S_nil _ _ _ _ _, by first | exact Kd.R_nil _ _ _ _ _ | exact Kd.N_nil _ _ _ _ _ | exact Kd.V_nil _ _ _ _ _ | exact Kd.Q_nil _ _ _ _ _ | exact Kd.S_nil _ _ _ _ _, by repeat (first | (with_reducible first | exact HB.out | apply below_alloc | apply pw_below_drewN | apply below_drew1 | refine below_set ?_ GE157.out) | exact HB.out)⟩
     ·rw [if_neg c13] at H
      have c13b0 : decide (a1 < (l0.length : Int)) = false := decide_eq_false c13
      clear c13
      replace H := Option.bind_eq_some_iff.mp H
      obtain ⟨⟨t161, t164, t167⟩, A150, H⟩ := H
      replace H : (some (t161, t164, t167, 0)) = some (r1, r2, r3, r4) := H
      have A15 := Aside0.mk A150
      clear A150
      simp only [Option.some.injEq, Prod.mk.injEq] at H
      obtain ⟨rfl, rfl, rfl, rfl⟩ := H
      go_wp2_with (first | ((with_reducible refine gate_callee (f := 115) rfl ?_); refine goesL_ (some 22) rfl rfl Try.func115 (by kernel_rfl) rfl #[.int .i64 a1] rfl a67_ ?_; (with_reducible refine (spec_l01Steps.calls a1 true _ A11.out).mono ?_); rintro e w' ⟨rfl, ⟨nd, rfl⟩⟩; refine ⟨_, rfl, ?_⟩; (try rw [World.drewN_drewN]); (try rw [World.drewN_drewN]); (try rw [World.drewN_drewN]); (try (rw [drewN_self wr]; generalize hq_ : World.drewN wr _ = wr; have n0_ : Aside0 (wr.heap[gb157]? = some (.cells #[.slice none 0 0, .slice none 0 0, .slice none 0 0] 29 (0, 0))) := ⟨by rw [← hq_]; exact a68_⟩; have n1_ : Aside0 (Below w.heap.size w wr) := ⟨by rw [← hq_]; exact a66_⟩; clear BK157 HB hq_; have BK157 := n0_; have HB := n1_; clear n0_ n1_))) | ((with_reducible refine gate_callee (f := 116) rfl ?_); refine goesL_ (some 33) rfl rfl Try.func116 (by kernel_rfl) rfl #[.slice A0 l0.length c0, .int .i64 a1] rfl a67_ ?_; (with_reducible refine (spec_l07For.calls k1 _ _ l0 a1 t161 t164 t167 _ ?side1 ?side2 A15.out).mono ?_); (case side1 => repeat (first | exact (Kd.C_below HR0.out HB.out) | (with_reducible refine Kd.C_alloc ?_ _) | (with_reducible refine Kd.C_drewN ?_ _) | (with_reducible refine Kd.C_drew ?_))); (case side2 => exact HC0.out); rintro e w16 ⟨v162, v165, v168, rfl, ho0, ho1, ho2, hb⟩; refine ⟨_, rfl, ?_⟩; have n0_ := Aside0.mk (Kd.R_lower ho0 (below_size a66_)); have n1_ := Aside0.mk (Kd.R_lower ho1 (below_size a66_)); have n2_ := Aside0.mk (Kd.R_lower ho2 (below_size a66_)); have n3_ := Aside0.mk (blk_below (g := gb157) a68_ hb); have n4_ := Aside0.mk (below_step a66_ hb); clear BK157; clear HB; have HO163 := n0_; have HO166 := n1_; have HO169 := n2_; have BK157 := n3_; have HB := n4_; clear n0_ n1_ n2_ n3_ n4_; (try clear hb); (try clear hb2); (try clear hk); (try clear hi); (try clear ho0); (try clear ho1); (try clear ho2); obtain ⟨Ao17, co17, eo17⟩ := Kd.R_slice HO163.out; subst eo17; have hcz18_0 : w16.cell? ⟨gb157, 0, none⟩ = some (.slice none 0 0) := (blk_cell BK157.out 0).trans rfl; have hcz18_1 : w16.cell? ⟨gb157, 1, none⟩ = some (.slice none 0 0) := (blk_cell BK157.out 1).trans rfl; have hcz18_2 : w16.cell? ⟨gb157, 2, none⟩ = some (.slice none 0 0) := (blk_cell BK157.out 2).trans rfl; have hfz18_0 := blk_frozen BK157.out 0; have hfz18_1 := blk_frozen BK157.out 1; have hfz18_2 := blk_frozen BK157.out 2; obtain ⟨Ao19, co19, eo19⟩ := Kd.R_slice HO166.out; subst eo19; obtain ⟨Ao20, co20, eo20⟩ := Kd.R_slice HO169.out; subst eo20))
      refine bodyPost_ret (results_ct rfl _ _ gb157 29 #[.slice Ao17 t161.length co17, .slice Ao19 t164.length co19, .slice Ao20 t167.length co20] (0, 0) _ rfl (by (with_reducible repeat (first | refine blk_drewN ?_ _ | refine blk_drew ?_ | refine blk_alloc ?_ _)); refine blk_put (cs := #[.slice Ao17 t161.length co17, .slice Ao19 t164.length co19, .slice none 0 0]) ?_ 2 _ rfl; (with_reducible repeat (first | refine blk_drewN ?_ _ | refine blk_drew ?_ | refine blk_alloc ?_ _)); refine blk_put (cs := #[.slice Ao17 t161.length co17, .slice none 0 0, .slice none 0 0]) ?_ 1 _ rfl; (with_reducible repeat (first | refine blk_drewN ?_ _ | refine blk_drew ?_ | refine blk_alloc ?_ _)); refine blk_put (cs := #[.slice none 0 0, .slice none 0 0, .slice none 0 0]) ?_ 0 _ rfl; (with_reducible repeat (first | refine blk_drewN ?_ _ | refine blk_drew ?_ | refine blk_alloc ?_ _)); exact BK157.out) Try.underlying29 rfl (by kernel_rfl)) rfl ?_
      exact ⟨_, _, _, by first | rfl | (simp [errW_none, errW_some] <;> rfl) | (simp [*, errW_none, errW_some] <;> rfl), by (with_reducible repeat (first | apply Kd.R_alloc | apply Kd.R_drewN | apply Kd.R_drew)); exact Kd.R_mono (Kd.R_far (p := ⟨gb157, 2, none⟩) (Kd.R_far (p := ⟨gb157, 1, none⟩) (Kd.R_far (p := ⟨gb157, 0, none⟩) (Kd.R_types HO163.out BK157.out (by decide)) (fun _ hk => hk.2) (.slice Ao17 t161.length co17)) (fun _ hk => hk.2) (.slice Ao19 t164.length co19)) (fun _ hk => hk.2) (.slice Ao20 t167.length co20)) (fun _ hk => ⟨hk.1.1, hk.1.2⟩), by (with_reducible repeat (first | apply Kd.R_alloc | apply Kd.R_drewN | apply Kd.R_drew)); exact Kd.R_mono (Kd.R_far (p := ⟨gb157, 2, none⟩) (Kd.R_far (p := ⟨gb157, 1, none⟩) (Kd.R_far (p := ⟨gb157, 0, none⟩) (Kd.R_types HO166.out BK157.out (by decide)) (fun _ hk => hk.2) (.slice Ao17 t161.length co17)) (fun _ hk => hk.2) (.slice Ao19 t164.length co19)) (fun _ hk => hk.2) (.slice Ao20 t167.length co20)) (fun _ hk => ⟨hk.1.1, hk.1.2⟩), by (with_reducible repeat (first | apply Kd.R_alloc | apply Kd.R_drewN | apply Kd.R_drew)); exact Kd.R_mono (Kd.R_far (p := ⟨gb157, 2, none⟩) (Kd.R_far (p := ⟨gb157, 1, none⟩) (Kd.R_far (p := ⟨gb157, 0, none⟩) (Kd.R_types HO169.out BK157.out (by decide)) (fun _ hk => hk.2) (.slice Ao17 t161.length co17)) (fun _ hk => hk.2) (.slice Ao19 t164.length co19)) (fun _ hk => hk.2) (.slice Ao20 t167.length co20)) (fun _ hk => ⟨hk.1.1, hk.1.2⟩), by repeat (first | (with_reducible first | exact HB.out | apply below_alloc | apply pw_below_drewN | apply below_drew1 | refine below_set ?_ GE157.out) | exact HB.out)⟩
    ·replace c12 := Bool.eq_false_iff.mpr c12
     subst c12
     have H1 : (some (([] : List Int), ([] : List Int), ([] : List Int), 2)) = some (r1, r2, r3, r4) := by rw [if_neg (show ¬ (false = true) by decide)] at H; exact H
     clear H
     have H := H1
     clear H1
     simp only [Option.some.injEq, Prod.mk.injEq] at H
     obtain ⟨rfl, rfl, rfl, rfl⟩ := H
     go_wp2_with (first | ((with_reducible refine gate_callee (f := 115) rfl ?_); refine goesL_ (some 22) rfl rfl Try.func115 (by kernel_rfl) rfl #[.int .i64 a1] rfl a67_ ?_; (with_reducible refine (spec_l01Steps.calls a1 false _ A11.out).mono ?_); rintro e w' ⟨rfl, ⟨nd, rfl⟩⟩; refine ⟨_, rfl, ?_⟩; (try rw [World.drewN_drewN]); (try rw [World.drewN_drewN]); (try rw [World.drewN_drewN]); (try (rw [drewN_self wr]; generalize hq_ : World.drewN wr _ = wr; have n0_ : Aside0 (wr.heap[gb157]? = some (.cells #[.slice none 0 0, .slice none 0 0, .slice none 0 0] 29 (0, 0))) := ⟨by rw [← hq_]; exact a68_⟩; have n1_ : Aside0 (Below w.heap.size w wr) := ⟨by rw [← hq_]; exact a66_⟩; clear BK157 HB hq_; have BK157 := n0_; have HB := n1_; clear n0_ n1_)); have hcz21_0 : wr.cell? ⟨gb157, 0, none⟩ = some (.slice none 0 0) := (blk_cell BK157.out 0).trans rfl; have hcz21_1 : wr.cell? ⟨gb157, 1, none⟩ = some (.slice none 0 0) := (blk_cell BK157.out 1).trans rfl; have hcz21_2 : wr.cell? ⟨gb157, 2, none⟩ = some (.slice none 0 0) := (blk_cell BK157.out 2).trans rfl; have hfz21_0 := blk_frozen BK157.out 0; have hfz21_1 := blk_frozen BK157.out 1; have hfz21_2 := blk_frozen BK157.out 2))
     refine bodyPost_ret (results_ct rfl _ _ gb157 29 #[.slice none 0 0, .slice none 0 0, .slice none 0 0] (0, 0) _ rfl a65_ Try.underlying29 rfl (by kernel_rfl)) rfl ?_
     exact ⟨_, _, _, by first | rfl | (simp [errW_none, errW_some] <;> rfl) | (simp [*, errW_none, errW_some] <;> rfl), by first | exact Kd.R_nil _ _ _ _ _ | exact Kd.N_nil _ _ _ _ _ | exact Kd.V_nil _ _ _ _ _ | exact Kd.Q_nil _ _ _ _ _ | exact Kd.S_nil _ _ _ _ _, by first | exact Kd.R_nil _ _ _ _ _ | exact Kd.N_nil _ _ _ _ _ | exact Kd.V_nil _ _ _ _ _ | exact Kd.Q_nil _ _ _ _ _ | exact Kd.S_nil _ _ _ _ _, by first | exact Kd.R_nil _ _ _ _ _ | exact Kd.N_nil _ _ _ _ _ | exact Kd.V_nil _ _ _ _ _ | exact Kd.Q_nil _ _ _ _ _ | exact Kd.S_nil _ _ _ _ _, by repeat (first | (with_reducible first | exact HB.out | apply below_alloc | apply pw_below_drewN | apply below_drew1 | refine below_set ?_ GE157.out) | exact HB.out)⟩

/-! ### steps of laws_toMark that come again: each is read where it is used -/
theorem a71_ {p : Prop} (h : p := by (with_reducible repeat (first | refine blk_drewN ?_ _ | refine blk_drew ?_ | refine blk_alloc ?_ _)); exact BK170.out) : p := h
theorem a72_ {p : Prop} (h : p := by repeat (first | (with_reducible first | exact HB.out | apply below_alloc | apply pw_below_drewN | apply below_drew1 | refine below_set ?_ GE170.out | refine below_set ?_ GE171.out) | exact HB.out)) : p := h
theorem a73_ {p : Prop} (h : p := by repeat (first | (with_reducible first | exact HB.out | apply below_alloc | apply pw_below_drewN | apply below_drew1 | refine below_set ?_ GE170.out) | exact HB.out)) : p := h
theorem a74_ {p : Prop} (h : p := by repeat (first | (with_reducible first | exact HB.out | apply below_alloc | apply pw_below_drewN | apply below_drew1) | exact HB.out)) : p := h
theorem a75_ {p : Prop} (h : p := by (with_reducible repeat (first | refine blk_drewN ?_ _ | refine blk_drew ?_ | refine blk_alloc ?_ _)); exact BK171.out) : p := h
theorem a76_ {p : Prop} (h : p := by rw [hg]; exact Nat.ne_of_lt (blk_lt (g := gb170) (o := .cells #[.int .i16 a0_0, .int .i16 a0_1] 70 (0, 0)) a71_)) : p := h
theorem a77_ {p : Prop} (h : p := by rw [hg]; exact Nat.ne_of_gt (blk_lt (g := gb170) (o := .cells #[.int .i16 a0_0, .int .i16 a0_1] 70 (0, 0)) a71_)) : p := h

/-! ### laws_toMark: function 46 -/
def laws_toMark.l0 : Nat → Int → Int → Int → Int → Int → Option (Int × Int)
  | 0, _, _, _, _, _ => none
  | k + 1, x4, x171000, x171001, x173000, x173001 => if x4 < 2 then (if x4 = 0 then (laws_toMark.l0 k (wrap64 (x4 + 1)) x171000 x171001 x171000 x173001) else (if x4 = 1 then (laws_toMark.l0 k (wrap64 (x4 + 1)) x171000 x171001 x173000 x171001) else (none))) else (some (x173000, x173001))
def laws_toMark.f (k : Nat) (a0_0 : Int) (a0_1 : Int) : Option (Int × Int) := laws_toMark.l0 k 0 a0_0 a0_1 0 0
theorem laws_toMark.mono_l : ∀ k, (∀ y0 y1 y2 y3 y4, LeO (laws_toMark.l0 k y0 y1 y2 y3 y4) (laws_toMark.l0 (k + 1) y0 y1 y2 y3 y4))
  | 0 => fun _ _ _ _ _ r h => by simp [laws_toMark.l0] at h
  | k + 1 => by
    have ih0 := laws_toMark.mono_l k
    · intro y0 y1 y2 y3 y4
      unfold laws_toMark.l0
      repeat' first
      | (with_reducible exact ih0 _ _ _ _ _)
      | (with_reducible exact LeO.refl _)
      | (with_reducible exact LeO.none _)
      | (with_reducible refine LeO.ite ?_ ?_)
      | (with_reducible refine LeO.bind ?_ (fun _ => ?_))
      | exact ih0 _ _ _ _ _
      | exact LeO.none _
      | refine LeO.ite ?_ ?_
      | refine LeO.bind ?_ (fun _ => ?_)
theorem laws_toMark.mono : ∀ a0 a1 k, LeO (laws_toMark.f k a0 a1) (laws_toMark.f (k + 1) a0 a1) := by
  intro a0 a1 k
  have ih0 := laws_toMark.mono_l k
  unfold laws_toMark.f
  repeat' first
      | (with_reducible exact ih0 _ _ _ _ _)
      | (with_reducible exact LeO.refl _)
      | (with_reducible exact LeO.none _)
      | (with_reducible refine LeO.ite ?_ ?_)
      | (with_reducible refine LeO.bind ?_ (fun _ => ?_))
      | exact ih0 _ _ _ _ _
      | exact LeO.none _
      | refine LeO.ite ?_ ?_
      | refine LeO.bind ?_ (fun _ => ?_)
/-! ### laws_toMark: what follows is its proof -/

set_option maxHeartbeats 8000000 in
set_option maxRecDepth 100000 in
theorem laws_toMark.calls (k : Nat) (a0_0 : Int) (a0_1 : Int) (r1 : Int) (r2 : Int) (w : World) (h : laws_toMark.f k a0_0 a0_1 = some (r1, r2)) :
    Calls Try.prog 46 #[.agg #[.int .i16 a0_0, .int .i16 a0_1]] w fun e w' => e = .returned (.agg #[.int .i16 r1, .int .i16 r2]) ∧ Below w.heap.size w w' := by
 have hu70 := Try.underlying70
 have hu74 := Try.underlying74
 have HB := Aside0.mk (Below.refl w.heap.size w)
 have H : (laws_toMark.l0 k 0 a0_0 a0_1 0 0) = some (r1, r2) := h
 clear h
 have H' := Aside0.mk H
 clear H
 go_enter Try.func46, Try.ntmps46
 go_wp2_with (first | ((with_reducible refine gate_dst (N := 1) rfl ?_); refine box_event ?hg (N := 1) ?hd (cs := #[.int .i16 a0_0, .int .i16 a0_1]) (t := 70) ?hr ?_; (case hd => rfl); (case hg => rfl); (case hr => first | (go_simp; done) | (go_simp; rfl)); intro gb170 hg w2 hbox hb; have n0_ := Aside0.mk (below_step a74_ hb); have n1_ := Aside0.mk (hbox); have n2_ := Aside0.mk ((by rw [hg]; exact (below_size a74_) : w.heap.size ≤ gb170)); have n3_ := Aside0.mk ((by rw [hg]; exact (below_size a74_) : w.heap.size ≤ gb170)); clear HB; have HB := n0_; have BK170 := n1_; have GW170 := n2_; have GE170 := n3_; clear n0_ n1_ n2_ n3_; clear hb hbox hg) | ((with_reducible refine gate_dst (N := 2) rfl ?_); refine box_event ?hg (N := 2) ?hd (cs := #[.int .i16 0, .int .i16 0]) (t := 74) ?hr ?_; (case hd => rfl); (case hg => rfl); (case hr => first | (go_simp; done) | (go_simp; rfl)); intro gb171 hg w3 hbox hb; have n0_ := Aside0.mk (blk_below (g := gb170) a71_ hb); have n1_ := Aside0.mk (below_step a73_ hb); have n2_ := Aside0.mk (hbox); have n3_ := Aside0.mk ((by rw [hg]; exact (below_size a73_) : w.heap.size ≤ gb171)); have n4_ := Aside0.mk ((by rw [hg]; exact (below_size a73_) : w.heap.size ≤ gb171)); have n5_ := Aside0.mk ((a76_ : gb170 ≠ gb171)); have n6_ := Aside0.mk ((a77_ : gb171 ≠ gb170)); clear BK170; clear HB; have BK170 := n0_; have HB := n1_; have BK171 := n2_; have GW171 := n3_; have GE171 := n4_; have NB170_171 := n5_; have NB171_170 := n6_; clear n0_ n1_ n2_ n3_ n4_ n5_ n6_; clear hb hbox hg) | ((with_reducible refine gate_dst (N := 3) rfl ?_); refine box_event ?hg (N := 3) ?hd (cs := #[.int .i16 0, .int .i16 0]) (t := 74) ?hr ?_; (case hd => rfl); (case hg => rfl); (case hr => first | (go_simp; done) | (go_simp; rfl)); intro gb172 hg w4 hbox hb; have n0_ := Aside0.mk (blk_below (g := gb170) a71_ hb); have n1_ := Aside0.mk (blk_below (g := gb171) a75_ hb); have n2_ := Aside0.mk (below_step a72_ hb); have n3_ := Aside0.mk (hbox); have n4_ := Aside0.mk ((by rw [hg]; exact (below_size a72_) : w.heap.size ≤ gb172)); have n5_ := Aside0.mk ((by rw [hg]; exact (below_size a72_) : w.heap.size ≤ gb172)); have n6_ := Aside0.mk ((a76_ : gb170 ≠ gb172)); have n7_ := Aside0.mk ((a77_ : gb172 ≠ gb170)); have n8_ := Aside0.mk ((by rw [hg]; exact Nat.ne_of_lt (blk_lt (g := gb171) (o := .cells #[.int .i16 0, .int .i16 0] 74 (0, 0)) a75_) : gb171 ≠ gb172)); have n9_ := Aside0.mk ((by rw [hg]; exact Nat.ne_of_gt (blk_lt (g := gb171) (o := .cells #[.int .i16 0, .int .i16 0] 74 (0, 0)) a75_) : gb172 ≠ gb171)); clear BK170; clear BK171; clear HB; have BK170 := n0_; have BK171 := n1_; have HB := n2_; have BK172 := n3_; have GW172 := n4_; have GE172 := n5_; have NB170_172 := n6_; have NB172_170 := n7_; have NB171_172 := n8_; have NB172_171 := n9_; clear n0_ n1_ n2_ n3_ n4_ n5_ n6_ n7_ n8_ n9_; clear hb hbox hg))
 go_loopg [4] k (fun kq v4 w' => ∃ (x4_1 : Int) (x173000_1 : Int) (x173001_1 : Int), v4 = .int .i64 x4_1 ∧ Aside0 (laws_toMark.l0 kq x4_1 a0_0 a0_1 x173000_1 x173001_1 = some (r1, r2)) ∧ Aside0 (kq ≤ k) ∧ Aside0 (w'.heap[gb170]? = some (.cells #[.int .i16 a0_0, .int .i16 a0_1] 70 (0, 0))) ∧ Aside0 (w'.heap[gb171]? = some (.cells #[.int .i16 0, .int .i16 0] 74 (0, 0))) ∧ Aside0 (w'.heap[gb172]? = some (.cells #[.int .i16 x173000_1, .int .i16 x173001_1] 74 (0, 0))) ∧ Aside0 (Below w.heap.size w w'))
 case atStart => exact ⟨(0), (0), (0), (by first | rfl | (simp; done) | (simp [*]; done)), H', ⟨Nat.le_refl _⟩, ⟨by (with_reducible repeat (first | refine blk_drewN ?_ _ | refine blk_drew ?_ | refine blk_alloc ?_ _)); exact BK170.out⟩, ⟨by (with_reducible repeat (first | refine blk_drewN ?_ _ | refine blk_drew ?_ | refine blk_alloc ?_ _)); exact BK171.out⟩, ⟨by (with_reducible repeat (first | refine blk_drewN ?_ _ | refine blk_drew ?_ | refine blk_alloc ?_ _)); exact BK172.out⟩, ⟨by repeat (first | (with_reducible first | exact HB.out | apply below_alloc | apply pw_below_drewN | apply below_drew1 | refine below_set ?_ GE170.out | refine below_set ?_ GE171.out | refine below_set ?_ GE172.out) | exact HB.out)⟩⟩
 case round =>
  clear H'
  try clear p2
  try clear c4
  obtain ⟨x4_1, x173000_1, x173001_1, rfl, HA, HK1, BK170, BK171, BK172, HB⟩ := hrel
  cases gk with
  | zero => exact absurd HA.out (by simp [laws_toMark.l0])
  | succ k1 =>
   have H := HA.out
   clear HA
   simp only [laws_toMark.l0] at H
   by_cases c5 : x4_1 < 2
   ·rw [if_pos c5] at H
    have c5b0 : decide (x4_1 < 2) = true := decide_eq_true c5
    clear c5
    by_cases c6 : x4_1 = 0
    ·rw [if_pos c6] at H
     have c6b0 : (x4_1 == 0) = true := beq_iff_eq.mpr c6
     have c6b1 : (x4_1 != 0) = false := bne_eq_false_iff_eq.mpr c6
     have c6b2 : (0 ≤ x4_1) = True := eq_true (by omega)
     have c6b3 : (x4_1 < 2) = True := eq_true (by omega)
     have c6b4 : Int.toNat x4_1 = 0 := by omega
     have c6b5 : wrap64 (x4_1 + 1) = x4_1 + 1 := by unfold wrap64; omega
     clear c6
     have H' := Aside0.mk H
     clear H
     have hnb7 := NB170_171.out
     have hnc7 := NB171_170.out
     have hnb8 := NB170_172.out
     have hnc8 := NB172_170.out
     have hcz9_0 : wr.cell? ⟨gb170, 0, none⟩ = some (.int .i16 a0_0) := (blk_cell BK170.out 0).trans rfl
     have hcz9_1 : wr.cell? ⟨gb170, 1, none⟩ = some (.int .i16 a0_1) := (blk_cell BK170.out 1).trans rfl
     have hfz9_0 := blk_frozen BK170.out 0
     have hfz9_1 := blk_frozen BK170.out 1
     have hnb10 := NB172_171.out
     have hnc10 := NB171_172.out
     have hcz11_0 : wr.cell? ⟨gb172, 0, none⟩ = some (.int .i16 x173000_1) := (blk_cell BK172.out 0).trans rfl
     have hcz11_1 : wr.cell? ⟨gb172, 1, none⟩ = some (.int .i16 x173001_1) := (blk_cell BK172.out 1).trans rfl
     have hfz11_0 := blk_frozen BK172.out 0
     have hfz11_1 := blk_frozen BK172.out 1
     go_wp2
     go_roundg k1
     case measure => have := HK1.out; omega
     case rel => exact ⟨(wrap64 (x4_1 + 1)), (a0_0), (x173001_1), (by first | rfl | (simp; done) | (simp [*]; done)), H', ⟨by have := HK1.out; omega⟩, ⟨by (with_reducible repeat (first | refine blk_drewN ?_ _ | refine blk_drew ?_ | refine blk_alloc ?_ _)); refine blk_far ?_ NB170_172.out _; (with_reducible repeat (first | refine blk_drewN ?_ _ | refine blk_drew ?_ | refine blk_alloc ?_ _)); exact BK170.out⟩, ⟨by (with_reducible repeat (first | refine blk_drewN ?_ _ | refine blk_drew ?_ | refine blk_alloc ?_ _)); refine blk_far ?_ NB171_172.out _; (with_reducible repeat (first | refine blk_drewN ?_ _ | refine blk_drew ?_ | refine blk_alloc ?_ _)); exact BK171.out⟩, ⟨by (with_reducible repeat (first | refine blk_drewN ?_ _ | refine blk_drew ?_ | refine blk_alloc ?_ _)); refine blk_put (cs := #[.int .i16 x173000_1, .int .i16 x173001_1]) ?_ 0 _ rfl; (with_reducible repeat (first | refine blk_drewN ?_ _ | refine blk_drew ?_ | refine blk_alloc ?_ _)); exact BK172.out⟩, ⟨by repeat (first | (with_reducible first | exact HB.out | apply below_alloc | apply pw_below_drewN | apply below_drew1 | refine below_set ?_ GE170.out | refine below_set ?_ GE171.out | refine below_set ?_ GE172.out) | exact HB.out)⟩⟩
    ·rw [if_neg c6] at H
     have c6b0 : (x4_1 == 0) = false := beq_eq_false_iff_ne.mpr c6
     have c6b1 : (x4_1 != 0) = true := bne_iff_ne.mpr c6
     by_cases c12 : x4_1 = 1
     ·rw [if_pos c12] at H
      have c12b0 : (x4_1 == 1) = true := beq_iff_eq.mpr c12
      have c12b1 : (x4_1 != 1) = false := bne_eq_false_iff_eq.mpr c12
      have c12b2 : (0 ≤ x4_1) = True := eq_true (by omega)
      have c12b3 : (x4_1 < 2) = True := eq_true (by omega)
      have c12b4 : Int.toNat x4_1 = 1 := by omega
      have c12b5 : wrap64 (x4_1 + 1) = x4_1 + 1 := by unfold wrap64; omega
      clear c12
      have H' := Aside0.mk H
      clear H
      have hnb13 := NB170_171.out
      have hnc13 := NB171_170.out
      have hnb14 := NB170_172.out
      have hnc14 := NB172_170.out
      have hcz15_0 : wr.cell? ⟨gb170, 0, none⟩ = some (.int .i16 a0_0) := (blk_cell BK170.out 0).trans rfl
      have hcz15_1 : wr.cell? ⟨gb170, 1, none⟩ = some (.int .i16 a0_1) := (blk_cell BK170.out 1).trans rfl
      have hfz15_0 := blk_frozen BK170.out 0
      have hfz15_1 := blk_frozen BK170.out 1
      have hnb16 := NB172_171.out
      have hnc16 := NB171_172.out
      have hcz17_0 : wr.cell? ⟨gb172, 0, none⟩ = some (.int .i16 x173000_1) := (blk_cell BK172.out 0).trans rfl
      have hcz17_1 : wr.cell? ⟨gb172, 1, none⟩ = some (.int .i16 x173001_1) := (blk_cell BK172.out 1).trans rfl
      have hfz17_0 := blk_frozen BK172.out 0
      have hfz17_1 := blk_frozen BK172.out 1
      go_wp2
      go_roundg k1
      case measure => have := HK1.out; omega
      case rel => exact ⟨(wrap64 (x4_1 + 1)), (x173000_1), (a0_1), (by first | rfl | (simp; done) | (simp [*]; done)), H', ⟨by have := HK1.out; omega⟩, ⟨by (with_reducible repeat (first | refine blk_drewN ?_ _ | refine blk_drew ?_ | refine blk_alloc ?_ _)); refine blk_far ?_ NB170_172.out _; (with_reducible repeat (first | refine blk_drewN ?_ _ | refine blk_drew ?_ | refine blk_alloc ?_ _)); exact BK170.out⟩, ⟨by (with_reducible repeat (first | refine blk_drewN ?_ _ | refine blk_drew ?_ | refine blk_alloc ?_ _)); refine blk_far ?_ NB171_172.out _; (with_reducible repeat (first | refine blk_drewN ?_ _ | refine blk_drew ?_ | refine blk_alloc ?_ _)); exact BK171.out⟩, ⟨by (with_reducible repeat (first | refine blk_drewN ?_ _ | refine blk_drew ?_ | refine blk_alloc ?_ _)); refine blk_put (cs := #[.int .i16 x173000_1, .int .i16 x173001_1]) ?_ 1 _ rfl; (with_reducible repeat (first | refine blk_drewN ?_ _ | refine blk_drew ?_ | refine blk_alloc ?_ _)); exact BK172.out⟩, ⟨by repeat (first | (with_reducible first | exact HB.out | apply below_alloc | apply pw_below_drewN | apply below_drew1 | refine below_set ?_ GE170.out | refine below_set ?_ GE171.out | refine below_set ?_ GE172.out) | exact HB.out)⟩⟩
     ·rw [if_neg c12] at H
      exact absurd H (by simp)
   ·rw [if_neg c5] at H
    have c5b0 : decide (x4_1 < 2) = false := decide_eq_false c5
    clear c5
    simp only [Option.some.injEq, Prod.mk.injEq] at H
    obtain ⟨rfl, rfl⟩ := H
    have hnb18 := NB172_170.out
    have hnc18 := NB170_172.out
    have hnb19 := NB172_171.out
    have hnc19 := NB171_172.out
    have hcz20_0 : wr.cell? ⟨gb172, 0, none⟩ = some (.int .i16 x173000_1) := (blk_cell BK172.out 0).trans rfl
    have hcz20_1 : wr.cell? ⟨gb172, 1, none⟩ = some (.int .i16 x173001_1) := (blk_cell BK172.out 1).trans rfl
    have hfz20_0 := blk_frozen BK172.out 0
    have hfz20_1 := blk_frozen BK172.out 1
    have hnb21 := NB171_170.out
    have hnc21 := NB170_171.out
    have hcz22_0 : wr.cell? ⟨gb171, 0, none⟩ = some (.int .i16 0) := (blk_cell BK171.out 0).trans rfl
    have hcz22_1 : wr.cell? ⟨gb171, 1, none⟩ = some (.int .i16 0) := (blk_cell BK171.out 1).trans rfl
    have hfz22_0 := blk_frozen BK171.out 0
    have hfz22_1 := blk_frozen BK171.out 1
    go_wp2
    refine bodyPost_ret (results_cell_row rfl _ _ gb171 74 #[.int .i16 x173000_1, .int .i16 x173001_1] (0, 0) _ rfl (by (with_reducible repeat (first | refine blk_drewN ?_ _ | refine blk_drew ?_ | refine blk_alloc ?_ _)); refine blk_put (cs := #[.int .i16 x173000_1, .int .i16 0]) ?_ 1 _ rfl; (with_reducible repeat (first | refine blk_drewN ?_ _ | refine blk_drew ?_ | refine blk_alloc ?_ _)); refine blk_put (cs := #[.int .i16 0, .int .i16 0]) ?_ 0 _ rfl; (with_reducible repeat (first | refine blk_drewN ?_ _ | refine blk_drew ?_ | refine blk_alloc ?_ _)); exact BK171.out) Try.underlying74 rfl (by kernel_rfl)) rfl ?_
    exact ⟨by first | rfl | (simp [errW_none, errW_some] <;> rfl) | (simp [*, errW_none, errW_some] <;> rfl), by repeat (first | (with_reducible first | exact HB.out | apply below_alloc | apply pw_below_drewN | apply below_drew1 | refine below_set ?_ GE170.out | refine below_set ?_ GE171.out | refine below_set ?_ GE172.out) | exact HB.out)⟩

/-! ### steps of laws_toStop that come again: each is read where it is used -/
theorem a78_ {p : Prop} (h : p := by (with_reducible repeat (first | refine blk_drewN ?_ _ | refine blk_drew ?_ | refine blk_alloc ?_ _)); exact BK173.out) : p := h
theorem a79_ {p : Prop} (h : p := by repeat (first | (with_reducible first | exact HB.out | apply below_alloc | apply pw_below_drewN | apply below_drew1 | refine below_set ?_ GE173.out | refine below_set ?_ GE174.out) | exact HB.out)) : p := h
theorem a80_ {p : Prop} (h : p := by repeat (first | (with_reducible first | exact HB.out | apply below_alloc | apply pw_below_drewN | apply below_drew1 | refine below_set ?_ GE173.out) | exact HB.out)) : p := h
theorem a81_ {p : Prop} (h : p := by (with_reducible repeat (first | refine blk_drewN ?_ _ | refine blk_drew ?_ | refine blk_alloc ?_ _)); exact BK174.out) : p := h
theorem a82_ {p : Prop} (h : p := by repeat (first | (with_reducible first | exact HB.out | apply below_alloc | apply pw_below_drewN | apply below_drew1) | exact HB.out)) : p := h
theorem a83_ {p : Prop} (h : p := by rw [hg]; exact Nat.ne_of_lt (blk_lt (g := gb173) (o := .cells #[.int .i16 a0_0, .int .i16 a0_1, .bool a0_2] 155 (0, 0)) a78_)) : p := h
theorem a84_ {p : Prop} (h : p := by rw [hg]; exact Nat.ne_of_gt (blk_lt (g := gb173) (o := .cells #[.int .i16 a0_0, .int .i16 a0_1, .bool a0_2] 155 (0, 0)) a78_)) : p := h

/-! ### laws_toStop: function 117 -/
def laws_toStop.f (k : Nat) (a0_0 : Int) (a0_1 : Int) (a0_2 : Bool) : Option (Int × Int × Bool) := (laws_toMark.f k a0_0 a0_1).bind fun bt176 => (some (bt176.1, bt176.2, a0_2))
theorem laws_toStop.mono : ∀ a0 a1 a2 k, LeO (laws_toStop.f k a0 a1 a2) (laws_toStop.f (k + 1) a0 a1 a2) := by
  intro a0 a1 a2 k
  unfold laws_toStop.f
  repeat' first
      | (with_reducible exact laws_toMark.mono _ _ _)
      | (with_reducible exact LeO.refl _)
      | (with_reducible exact LeO.none _)
      | (with_reducible refine LeO.ite ?_ ?_)
      | (with_reducible refine LeO.bind ?_ (fun _ => ?_))
      | exact laws_toMark.mono _ _ _
      | exact LeO.none _
      | refine LeO.ite ?_ ?_
      | refine LeO.bind ?_ (fun _ => ?_)
/-! ### laws_toStop: what follows is its proof -/

set_option maxHeartbeats 8000000 in
set_option maxRecDepth 100000 in
theorem laws_toStop.calls (k : Nat) (a0_0 : Int) (a0_1 : Int) (a0_2 : Bool) (r1 : Int) (r2 : Int) (r3 : Bool) (w : World) (h : laws_toStop.f k a0_0 a0_1 a0_2 = some (r1, r2, r3)) :
    Calls Try.prog 117 #[.agg #[.int .i16 a0_0, .int .i16 a0_1, .bool a0_2]] w fun e w' => e = .returned (.agg #[.int .i16 r1, .int .i16 r2, .bool r3]) ∧ Below w.heap.size w w' := by
 have hu155 := Try.underlying155
 have hu118 := Try.underlying118
 have hu70 := Try.underlying70
 have hu74 := Try.underlying74
 have HB := Aside0.mk (Below.refl w.heap.size w)
 have H : ((laws_toMark.f k a0_0 a0_1).bind fun bt176 => (some (bt176.1, bt176.2, a0_2))) = some (r1, r2, r3) := h
 clear h
 replace H := Option.bind_eq_some_iff.mp H
 obtain ⟨⟨t176, t177⟩, A20, H⟩ := H
 replace H : (some (t176, t177, a0_2)) = some (r1, r2, r3) := H
 have A2 := Aside0.mk A20
 clear A20
 simp only [Option.some.injEq, Prod.mk.injEq] at H
 obtain ⟨rfl, rfl, rfl⟩ := H
 go_enter Try.func117, Try.ntmps117
 go_wp2_with (first | ((with_reducible refine gate_dst (N := 1) rfl ?_); refine box_event ?hg (N := 1) ?hd (cs := #[.int .i16 a0_0, .int .i16 a0_1, .bool a0_2]) (t := 155) ?hr ?_; (case hd => rfl); (case hg => rfl); (case hr => first | (go_simp; done) | (go_simp; rfl)); intro gb173 hg w3 hbox hb; have n0_ := Aside0.mk (below_step a82_ hb); have n1_ := Aside0.mk (hbox); have n2_ := Aside0.mk ((by rw [hg]; exact (below_size a82_) : w.heap.size ≤ gb173)); have n3_ := Aside0.mk ((by rw [hg]; exact (below_size a82_) : w.heap.size ≤ gb173)); clear HB; have HB := n0_; have BK173 := n1_; have GW173 := n2_; have GE173 := n3_; clear n0_ n1_ n2_ n3_; clear hb hbox hg) | ((with_reducible refine gate_dst (N := 2) rfl ?_); refine box_event ?hg (N := 2) ?hd (cs := #[.int .i16 0, .int .i16 0, .bool false]) (t := 118) ?hr ?_; (case hd => rfl); (case hg => rfl); (case hr => first | (go_simp; done) | (go_simp; rfl)); intro gb174 hg w4 hbox hb; have n0_ := Aside0.mk (blk_below (g := gb173) a78_ hb); have n1_ := Aside0.mk (below_step a80_ hb); have n2_ := Aside0.mk (hbox); have n3_ := Aside0.mk ((by rw [hg]; exact (below_size a80_) : w.heap.size ≤ gb174)); have n4_ := Aside0.mk ((by rw [hg]; exact (below_size a80_) : w.heap.size ≤ gb174)); have n5_ := Aside0.mk ((a83_ : gb173 ≠ gb174)); have n6_ := Aside0.mk ((a84_ : gb174 ≠ gb173)); clear BK173; clear HB; have BK173 := n0_; have HB := n1_; have BK174 := n2_; have GW174 := n3_; have GE174 := n4_; have NB173_174 := n5_; have NB174_173 := n6_; clear n0_ n1_ n2_ n3_ n4_ n5_ n6_; clear hb hbox hg) | ((with_reducible refine gate_dst (N := 3) rfl ?_); refine box_event ?hg (N := 3) ?hd (cs := #[.int .i16 0, .int .i16 0, .bool false]) (t := 118) ?hr ?_; (case hd => rfl); (case hg => rfl); (case hr => first | (go_simp; done) | (go_simp; rfl)); intro gb175 hg w5 hbox hb; have n0_ := Aside0.mk (blk_below (g := gb173) a78_ hb); have n1_ := Aside0.mk (blk_below (g := gb174) a81_ hb); have n2_ := Aside0.mk (below_step a79_ hb); have n3_ := Aside0.mk (hbox); have n4_ := Aside0.mk ((by rw [hg]; exact (below_size a79_) : w.heap.size ≤ gb175)); have n5_ := Aside0.mk ((by rw [hg]; exact (below_size a79_) : w.heap.size ≤ gb175)); have n6_ := Aside0.mk ((a83_ : gb173 ≠ gb175)); have n7_ := Aside0.mk ((a84_ : gb175 ≠ gb173)); have n8_ := Aside0.mk ((by rw [hg]; exact Nat.ne_of_lt (blk_lt (g := gb174) (o := .cells #[.int .i16 0, .int .i16 0, .bool false] 118 (0, 0)) a81_) : gb174 ≠ gb175)); have n9_ := Aside0.mk ((by rw [hg]; exact Nat.ne_of_gt (blk_lt (g := gb174) (o := .cells #[.int .i16 0, .int .i16 0, .bool false] 118 (0, 0)) a81_) : gb175 ≠ gb174)); clear BK173; clear BK174; clear HB; have BK173 := n0_; have BK174 := n1_; have HB := n2_; have BK175 := n3_; have GW175 := n4_; have GE175 := n5_; have NB173_175 := n6_; have NB175_173 := n7_; have NB174_175 := n8_; have NB175_174 := n9_; clear n0_ n1_ n2_ n3_ n4_ n5_ n6_ n7_ n8_ n9_; clear hb hbox hg; have hnb6 := NB173_174.out; have hnc6 := NB174_173.out; have hnb7 := NB173_175.out; have hnc7 := NB175_173.out; have hcz8_0 : w5.cell? ⟨gb173, 0, none⟩ = some (.int .i16 a0_0) := (blk_cell BK173.out 0).trans rfl; have hcz8_1 : w5.cell? ⟨gb173, 1, none⟩ = some (.int .i16 a0_1) := (blk_cell BK173.out 1).trans rfl; have hcz8_2 : w5.cell? ⟨gb173, 2, none⟩ = some (.bool a0_2) := (blk_cell BK173.out 2).trans rfl; have hfz8_0 := blk_frozen BK173.out 0; have hfz8_1 := blk_frozen BK173.out 1; have hfz8_2 := blk_frozen BK173.out 2) | ((with_reducible refine gate_callee (f := 46) rfl ?_); refine goesL_ (some 6) rfl rfl Try.func46 (by kernel_rfl) rfl #[.agg #[.int .i16 a0_0, .int .i16 a0_1]] rfl (by (try simp only [List.map_toArray, List.map_cons, List.map_nil]); first | done | rfl | (simp only [List.length_drop, List.length_take]; rfl)) ?_; (with_reducible refine (laws_toMark.calls k a0_0 a0_1 t176 t177 _ A2.out).mono ?_); rintro e w9 ⟨rfl, hb⟩; refine ⟨_, rfl, ?_⟩; have n0_ := Aside0.mk (blk_below (g := gb173) a78_ hb); have n1_ := Aside0.mk (blk_below (g := gb174) a81_ hb); have n2_ := Aside0.mk (blk_below (g := gb175) (by (with_reducible repeat (first | refine blk_drewN ?_ _ | refine blk_drew ?_ | refine blk_alloc ?_ _)); exact BK175.out) hb); have n3_ := Aside0.mk (below_step (by repeat (first | (with_reducible first | exact HB.out | apply below_alloc | apply pw_below_drewN | apply below_drew1 | refine below_set ?_ GE173.out | refine below_set ?_ GE174.out | refine below_set ?_ GE175.out) | exact HB.out)) hb); clear BK173; clear BK174; clear BK175; clear HB; have BK173 := n0_; have BK174 := n1_; have BK175 := n2_; have HB := n3_; clear n0_ n1_ n2_ n3_; (try clear hb); (try clear hb2); (try clear hk); (try clear hi); have hnb10 := NB175_174.out; have hnc10 := NB174_175.out; have hcz11_0 : w9.cell? ⟨gb175, 0, none⟩ = some (.int .i16 0) := (blk_cell BK175.out 0).trans rfl; have hcz11_1 : w9.cell? ⟨gb175, 1, none⟩ = some (.int .i16 0) := (blk_cell BK175.out 1).trans rfl; have hcz11_2 : w9.cell? ⟨gb175, 2, none⟩ = some (.bool false) := (blk_cell BK175.out 2).trans rfl; have hfz11_0 := blk_frozen BK175.out 0; have hfz11_1 := blk_frozen BK175.out 1; have hfz11_2 := blk_frozen BK175.out 2; have hcz12_0 : w9.cell? ⟨gb173, 0, none⟩ = some (.int .i16 a0_0) := (blk_cell BK173.out 0).trans rfl; have hcz12_1 : w9.cell? ⟨gb173, 1, none⟩ = some (.int .i16 a0_1) := (blk_cell BK173.out 1).trans rfl; have hcz12_2 : w9.cell? ⟨gb173, 2, none⟩ = some (.bool a0_2) := (blk_cell BK173.out 2).trans rfl; have hfz12_0 := blk_frozen BK173.out 0; have hfz12_1 := blk_frozen BK173.out 1; have hfz12_2 := blk_frozen BK173.out 2; have hcz13_0 : w9.cell? ⟨gb174, 0, none⟩ = some (.int .i16 0) := (blk_cell BK174.out 0).trans rfl; have hcz13_1 : w9.cell? ⟨gb174, 1, none⟩ = some (.int .i16 0) := (blk_cell BK174.out 1).trans rfl; have hcz13_2 : w9.cell? ⟨gb174, 2, none⟩ = some (.bool false) := (blk_cell BK174.out 2).trans rfl; have hfz13_0 := blk_frozen BK174.out 0; have hfz13_1 := blk_frozen BK174.out 1; have hfz13_2 := blk_frozen BK174.out 2))
 refine bodyPost_ret (results_cell_row rfl _ _ gb174 118 #[.int .i16 t176, .int .i16 t177, .bool a0_2] (0, 0) _ rfl (by (with_reducible repeat (first | refine blk_drewN ?_ _ | refine blk_drew ?_ | refine blk_alloc ?_ _)); refine blk_put (cs := #[.int .i16 t176, .int .i16 t177, .bool false]) ?_ 2 _ rfl; (with_reducible repeat (first | refine blk_drewN ?_ _ | refine blk_drew ?_ | refine blk_alloc ?_ _)); refine blk_put (cs := #[.int .i16 t176, .int .i16 0, .bool false]) ?_ 1 _ rfl; (with_reducible repeat (first | refine blk_drewN ?_ _ | refine blk_drew ?_ | refine blk_alloc ?_ _)); refine blk_put (cs := #[.int .i16 0, .int .i16 0, .bool false]) ?_ 0 _ rfl; (with_reducible repeat (first | refine blk_drewN ?_ _ | refine blk_drew ?_ | refine blk_alloc ?_ _)); refine blk_far ?_ NB174_175.out _; (with_reducible repeat (first | refine blk_drewN ?_ _ | refine blk_drew ?_ | refine blk_alloc ?_ _)); refine blk_far ?_ NB174_175.out _; (with_reducible repeat (first | refine blk_drewN ?_ _ | refine blk_drew ?_ | refine blk_alloc ?_ _)); refine blk_far ?_ NB174_175.out _; (with_reducible repeat (first | refine blk_drewN ?_ _ | refine blk_drew ?_ | refine blk_alloc ?_ _)); exact BK174.out) Try.underlying118 rfl (by kernel_rfl)) rfl ?_
 exact ⟨by first | rfl | (simp [errW_none, errW_some] <;> rfl) | (simp [*, errW_none, errW_some] <;> rfl), by repeat (first | (with_reducible first | exact HB.out | apply below_alloc | apply pw_below_drewN | apply below_drew1 | refine below_set ?_ GE173.out | refine below_set ?_ GE174.out | refine below_set ?_ GE175.out) | exact HB.out)⟩

/-! ### steps of laws_toStopS that come again: each is read where it is used -/
theorem a85_ {p : Prop} (h : p := by first | (with_reducible assumption) | assumption) : p := h
theorem a86_ {p : Prop} (h : p := by repeat (first | (with_reducible first | exact HB.out | apply below_alloc | apply pw_below_drewN | apply below_drew1) | exact HB.out)) : p := h
theorem a87_ {p : Prop} (h : p := by (with_reducible repeat (first | apply Kd.R_alloc | apply Kd.R_drewN | apply Kd.R_drew)); exact HO_3.out) : p := h

/-! ### laws_toStopS: function 53 -/
def laws_toStopS.l0 : Nat → List (S155) → List (S118) → Int → Option ((List (S118)))
  | 0, _, _, _ => none
  | k + 1, x0, x3, x4 => if x4 < (x0.length : Int) then (if 0 ≤ x4 then ((laws_toStop.f k ((rd_T155 x0 x4).f0.f0) ((rd_T155 x0 x4).f0.f1) ((rd_T155 x0 x4).f1)).bind fun bt182 => (if x4 < (x3.length : Int) then (laws_toStopS.l0 k x0 (x3.set (x4 : Int).toNat (⟨(⟨bt182.1, bt182.2.1⟩ : S74), bt182.2.2⟩ : S118)) (wrap64 (x4 + 1))) else (none))) else (none)) else (some x3)
def laws_toStopS.f (k : Nat) (l0 : List (S155)) : Option ((List (S118))) := if 0 ≤ (l0.length : Int) then (if ((l0.length : Int) : Int).toNat ≤ 46912496118442 then (laws_toStopS.l0 k l0 (List.replicate ((l0.length : Int) : Int).toNat z118) 0) else (none)) else (none)
theorem laws_toStopS.mono_l : ∀ k, (∀ y0 y1 y2, LeO (laws_toStopS.l0 k y0 y1 y2) (laws_toStopS.l0 (k + 1) y0 y1 y2))
  | 0 => fun _ _ _ r h => by simp [laws_toStopS.l0] at h
  | k + 1 => by
    have ih0 := laws_toStopS.mono_l k
    · intro y0 y1 y2
      unfold laws_toStopS.l0
      repeat' first
      | (with_reducible exact ih0 _ _ _)
      | (with_reducible exact laws_toStop.mono _ _ _ _)
      | (with_reducible exact LeO.refl _)
      | (with_reducible exact LeO.none _)
      | (with_reducible refine LeO.ite ?_ ?_)
      | (with_reducible refine LeO.bind ?_ (fun _ => ?_))
      | exact ih0 _ _ _
      | exact laws_toStop.mono _ _ _ _
      | exact LeO.none _
      | refine LeO.ite ?_ ?_
      | refine LeO.bind ?_ (fun _ => ?_)
theorem laws_toStopS.mono : ∀ a0 k, LeO (laws_toStopS.f k a0) (laws_toStopS.f (k + 1) a0) := by
  intro a0 k
  have ih0 := laws_toStopS.mono_l k
  unfold laws_toStopS.f
  repeat' first
      | (with_reducible exact ih0 _ _ _)
      | (with_reducible exact laws_toStop.mono _ _ _ _)
      | (with_reducible exact LeO.refl _)
      | (with_reducible exact LeO.none _)
      | (with_reducible refine LeO.ite ?_ ?_)
      | (with_reducible refine LeO.bind ?_ (fun _ => ?_))
      | exact ih0 _ _ _
      | exact laws_toStop.mono _ _ _ _
      | exact LeO.none _
      | refine LeO.ite ?_ ?_
      | refine LeO.bind ?_ (fun _ => ?_)
/-! ### laws_toStopS: what follows is its proof -/

set_option maxHeartbeats 8000000 in
set_option maxRecDepth 100000 in
theorem laws_toStopS.calls (k : Nat) (A0 : Option Addr) (c0 : Nat) (l0 : List (S155)) (r : List (S118)) (w : World) (hr0 : Kd.C k155 w A0 l0.length l0) (hc0 : l0.length ≤ c0) (h : laws_toStopS.f k l0 = some r) :
    Calls Try.prog 53 #[.slice A0 l0.length c0] w fun e w' => ∃ v0_ : Value, e = .returned (v0_) ∧ Kd.R k118 118 w' w.heap.size (fun _ => True) v0_ r ∧ Below w.heap.size w w' := by
 have hu155 := Try.underlying155
 have hu118 := Try.underlying118
 have HR0 := Aside0.mk hr0
 have HC0 := Aside0.mk hc0
 clear hr0 hc0
 have HB := Aside0.mk (Below.refl w.heap.size w)
 have H : (if 0 ≤ (l0.length : Int) then (if ((l0.length : Int) : Int).toNat ≤ 46912496118442 then (laws_toStopS.l0 k l0 (List.replicate ((l0.length : Int) : Int).toNat z118) 0) else (none)) else (none)) = some r := h
 clear h
 by_cases c2 : 0 ≤ (l0.length : Int)
 ·rw [if_pos c2] at H
  have c2b0 := eq_true c2
  have c2b1 : decide (0 ≤ (l0.length : Int)) = true := decide_eq_true c2
  clear c2
  by_cases c3 : ((l0.length : Int) : Int).toNat ≤ 46912496118442
  ·rw [if_pos c3] at H
   have c3b0 := eq_true c3
   have c3b1 : decide (((l0.length : Int) : Int).toNat ≤ 46912496118442) = true := decide_eq_true c3
   clear c3
   obtain ⟨y178, hy178⟩ : ∃ y_ : List (S118), y_ = (List.replicate ((l0.length : Int) : Int).toNat z118) := ⟨_, rfl⟩
   replace H : (laws_toStopS.l0 k l0 y178 0) = some r := by first | (rw [hy178]; with_reducible exact H) | (have H2_ := (Option.bind_some _ _).symm.trans H; rw [hy178]; with_reducible exact H2_) | (have H2_ := (Option.bind_some _ _).symm.trans H; with_reducible exact H2_) | with_reducible exact H | (rw [hy178]; exact H) | exact H
   have Ny178 := Aside0.mk hy178
   clear hy178
   have H' := Aside0.mk H
   clear H
   go_enter Try.func53, Try.ntmps53
   go_wp2_with (first | ((with_reducible refine gate_dst (N := 7) rfl ?_); refine Kd.R_make k118 _ 118 rfl (N := 7) rfl 82 _ _ rfl (l0.length : Int) rfl rfl Try.underlying82 (.agg #[(.int .i16 0), (.int .i16 0), (.bool false)]) 6 info118 rfl (by decide) (by omega) z118 (ok := fun _ => True) (okp := fun _ => True) (k118_mkM _ _ _ z118 ) (fun _ hk => hk) trivial (of_decide_eq_true a85_) (Nat.le_trans (Nat.mul_le_mul_right _ (of_decide_eq_true a85_ : (l0.length : Int).toNat ≤ 46912496118442)) (by omega)) (Below.refl _ _) (Nat.le_refl _) ?_; intro v179 w4 ho5 hb hg_ hnew_; clear hg_ hnew_; (first | rw [← Ny178.out] at ho5 | (simp only [Int.reduceToNat] at ho5; rw [← Ny178.out] at ho5)); have n0_ := Aside0.mk (Kd.R_lower ho5 (below_size a86_)); have n1_ := Aside0.mk (below_step a86_ hb); clear HB; have HO180 := n0_; have HB := n1_; clear n0_ n1_; clear hb ho5))
   go_loopg [4] k (fun kq v4 w' => ∃ (x3_1 : List (S118)) (x4_1 : Int), v4 = .int .i64 x4_1 ∧ Aside0 (laws_toStopS.l0 kq l0 x3_1 x4_1 = some r) ∧ Aside0 (kq ≤ k) ∧ Aside0 (Kd.R k118 118 w' w.heap.size (fun _ => True) v179 x3_1) ∧ Aside0 (Below w.heap.size w w'))
   case atStart => exact ⟨(y178), (0), (by first | rfl | (simp; done) | (simp [*]; done)), H', ⟨Nat.le_refl _⟩, ⟨by (with_reducible repeat (first | apply Kd.R_alloc | apply Kd.R_drewN | apply Kd.R_drew)); exact HO180.out⟩, ⟨by repeat (first | (with_reducible first | exact HB.out | apply below_alloc | apply pw_below_drewN | apply below_drew1) | exact HB.out)⟩⟩
   case round =>
    clear H'
    try clear c2
    try clear c2b0
    try clear c2b1
    try clear p2
    try clear c3
    try clear c3b0
    try clear c3b1
    try clear c5
    obtain ⟨x3_1, x4_1, rfl, HA, HK1, HO_3, HB⟩ := hrel
    cases gk with
    | zero => exact absurd HA.out (by simp [laws_toStopS.l0])
    | succ k1 =>
     have H := HA.out
     clear HA
     simp only [laws_toStopS.l0] at H
     by_cases c6 : x4_1 < (l0.length : Int)
     ·rw [if_pos c6] at H
      have c6b0 : decide (x4_1 < (l0.length : Int)) = true := decide_eq_true c6
      clear c6
      by_cases c7 : 0 ≤ x4_1
      ·rw [if_pos c7] at H
       have c7b0 : decide (0 ≤ x4_1) = true := decide_eq_true c7
       clear c7
       replace H := Option.bind_eq_some_iff.mp H
       obtain ⟨⟨t182, t183, t184⟩, A80, H⟩ := H
       replace H : (if x4_1 < (x3_1.length : Int) then (laws_toStopS.l0 k1 l0 (x3_1.set (x4_1 : Int).toNat (⟨(⟨t182, t183⟩ : S74), t184⟩ : S118)) (wrap64 (x4_1 + 1))) else (none)) = some r := H
       have A8 := Aside0.mk A80
       clear A80
       by_cases c9 : x4_1 < (x3_1.length : Int)
       ·rw [if_pos c9] at H
        have c9b0 : decide (x4_1 < (x3_1.length : Int)) = true := decide_eq_true c9
        clear c9
        obtain ⟨y185, hy185⟩ : ∃ y_ : List (S118), y_ = (x3_1.set (x4_1 : Int).toNat (⟨(⟨t182, t183⟩ : S74), t184⟩ : S118)) := ⟨_, rfl⟩
        replace H : (laws_toStopS.l0 k1 l0 y185 (wrap64 (x4_1 + 1))) = some r := by first | (rw [hy185]; with_reducible exact H) | (have H2_ := (Option.bind_some _ _).symm.trans H; rw [hy185]; with_reducible exact H2_) | (have H2_ := (Option.bind_some _ _).symm.trans H; with_reducible exact H2_) | with_reducible exact H | (rw [hy185]; exact H) | exact H
        have Ny185 := Aside0.mk hy185
        clear hy185
        have H' := Aside0.mk H
        clear H
        have p181 : 0 ≤ (x4_1 : Int) := of_decide_eq_true a85_
        have q181 : x4_1 < (l0.length : Int) := of_decide_eq_true a85_
        obtain ⟨ad181, e181, hx181_0, hx181_1, hx181_2⟩ := at_T155 HR0.out x4_1 p181 q181
        cases e181
        replace hx181_0 := (HB.out.cell (World.block_lt_of_cell? w _ hx181_0)).trans hx181_0
        replace hx181_1 := (HB.out.cell (World.block_lt_of_cell? w _ hx181_1)).trans hx181_1
        replace hx181_2 := (HB.out.cell (World.block_lt_of_cell? w _ hx181_2)).trans hx181_2
        replace p181 := eq_true p181
        replace q181 := eq_true q181
        go_wp2_with (first | ((with_reducible refine gate_callee (f := 117) rfl ?_); refine goesL_ (some 20) rfl rfl Try.func117 (by kernel_rfl) rfl #[.agg #[.int .i16 ((rd_T155 l0 x4_1).f0.f0), .int .i16 ((rd_T155 l0 x4_1).f0.f1), .bool ((rd_T155 l0 x4_1).f1)]] rfl (by (try simp only [List.map_toArray, List.map_cons, List.map_nil]); first | done | rfl | (simp only [List.length_drop, List.length_take]; rfl)) ?_; (with_reducible refine (laws_toStop.calls k1 ((rd_T155 l0 x4_1).f0.f0) ((rd_T155 l0 x4_1).f0.f1) ((rd_T155 l0 x4_1).f1) t182 t183 t184 _ A8.out).mono ?_); rintro e w11 ⟨rfl, hb⟩; refine ⟨_, rfl, ?_⟩; have n0_ := Aside0.mk (Kd.R_below a87_ hb); have n1_ := Aside0.mk (below_step a86_ hb); clear HO_3; clear HB; have HO_3 := n0_; have HB := n1_; clear n0_ n1_; (try clear hb); (try clear hb2); (try clear hk); (try clear hi); have p10 : 0 ≤ (x4_1 : Int) := of_decide_eq_true a85_; have q10 : (x4_1 : Int) < ((x3_1.length : Int) : Int) := of_decide_eq_true a85_; obtain ⟨go10, co10, eo10, gb10, gl10, cl10, HG10⟩ := Kd.R_form HO_3.out (by omega); (first | cases eo10 | (injection eo10 with ea_ en_ ec_; (first | subst ea_ | (injection ea_ with ea_; subst ea_)); subst ec_; clear en_)); have GB10 := Aside0.mk gb10; have GG10 := Aside0.mk HG10; clear gb10 gl10 HG10; obtain ⟨ce10, hcl10, hM10, hcc10, hfr10⟩ := Kd.R_elem HO_3.out z118 (x4_1 : Int) p10 q10; obtain rfl := k118_openM hM10; have hx10_0 : w11.cell? ⟨go10, (x4_1 : Int).toNat * 3, none⟩ = some (.int .i16 ((rd_T118 x3_1 x4_1).f0.f0)) := hcc10 0 _ rfl; have hx10_1 : w11.cell? ⟨go10, (x4_1 : Int).toNat * 3 + 1, none⟩ = some (.int .i16 ((rd_T118 x3_1 x4_1).f0.f1)) := hcc10 1 _ rfl; have hx10_2 : w11.cell? ⟨go10, (x4_1 : Int).toNat * 3 + 2, none⟩ = some (.bool ((rd_T118 x3_1 x4_1).f1)) := hcc10 2 _ rfl; have hf10_0 : w11.frozen? ⟨go10, (x4_1 : Int).toNat * 3, none⟩ = false := hfr10 0; have hf10_1 : w11.frozen? ⟨go10, (x4_1 : Int).toNat * 3 + 1, none⟩ = false := hfr10 1; have hf10_2 : w11.frozen? ⟨go10, (x4_1 : Int).toNat * 3 + 2, none⟩ = false := hfr10 2; clear hcl10 hcc10 hfr10 hM10; replace p10 := eq_true p10; replace q10 := eq_true q10; have HX12 := Aside0.mk (show Kd.R k118 118 w11 w.heap.size (fun _ => True) (.slice (some ⟨go10, 0, none⟩) x3_1.length co10) x3_1 from a87_); obtain ⟨ce12, hcl12, hM12, hcc12, hfr12⟩ := Kd.R_elem HX12.out z118 (x4_1 : Int) (of_decide_eq_true a85_) (by have h_ : (x4_1 : Int) < ((x3_1.length : Int) : Int) := of_decide_eq_true a85_; first | exact h_ | (have e_ := (Kd.R_reads' HO_3.out).1; omega) | simpa using h_); obtain rfl := k118_openM hM12; have HP12 := Kd.R_seg HX12.out (x4_1 : Int) (of_decide_eq_true a85_) (by have h_ : (x4_1 : Int) < ((x3_1.length : Int) : Int) := of_decide_eq_true a85_; first | exact h_ | (have e_ := (Kd.R_reads' HO_3.out).1; omega) | simpa using h_) (seg := [.int .i16 t182, .int .i16 t183, .bool t184]) (j := 0) hcl12 hcc12 (show 3 ≤ 3 from by decide) (x' := (⟨(⟨t182, t183⟩ : S74), t184⟩ : S118)) (k118_mkM _ _ _ (⟨(⟨t182, t183⟩ : S74), t184⟩ : S118) ) (fun _ hk => hk); have hx12_0 := hcc12 0 _ rfl; (try simp only [show (k118).sz = 3 from rfl, Nat.mul_one, Nat.add_zero] at hx12_0); have hf12_0 := hfr12 0; (try simp only [show (k118).sz = 3 from rfl, Nat.mul_one, Nat.add_zero] at hf12_0); have hx12_1 := hcc12 1 _ rfl; (try simp only [show (k118).sz = 3 from rfl, Nat.mul_one, Nat.add_zero] at hx12_1); have hf12_1 := hfr12 1; (try simp only [show (k118).sz = 3 from rfl, Nat.mul_one, Nat.add_zero] at hf12_1); have hx12_2 := hcc12 2 _ rfl; (try simp only [show (k118).sz = 3 from rfl, Nat.mul_one, Nat.add_zero] at hx12_2); have hf12_2 := hfr12 2; (try simp only [show (k118).sz = 3 from rfl, Nat.mul_one, Nat.add_zero] at hf12_2); clear hcl12 hcc12 hfr12 hM12) | ((with_reducible refine gate_store (t := 118) (p := 21) rfl ?_); refine store_event (t := 118) (p := 21) (v := ?vo_w13) (w1 := (((w11.setCell ⟨go10, (x4_1 : Int).toNat * 3, none⟩ (.int .i16 t182)).setCell ⟨go10, (x4_1 : Int).toNat * 3 + 1, none⟩ (.int .i16 t183)).setCell ⟨go10, (x4_1 : Int).toNat * 3 + 2, none⟩ (.bool t184))) ?hg ?ho ?hn ?hr ?_; (case ho => rfl); (case hg => rfl); (case hn => rfl); (case hr => first | (go_simp; done) | (go_simp; rfl)); intro w13 hw; have hg : w11.grownBy w13 (some go10) := (by rw [hw]; exact HP12.2); have hp_ : Kd.R k118 118 w13 w.heap.size (fun _ => True) (.slice (some ⟨go10, 0, none⟩) x3_1.length co10) y185 := (by rw [hw, Ny185.out]; exact HP12.1); clear HP12; have n0_ := Aside0.mk (hp_); have n1_ := Aside0.mk ((by rw [hw]; exact below_set (below_set (below_set (HB.out) GB10.out) GB10.out) GB10.out : Below w.heap.size w w13)); clear HO_3; clear HB; have HO_3 := n0_; have HB := n1_; clear n0_ n1_; clear hg hw hp_))
        go_roundg k1
        case measure => have := HK1.out; omega
        case rel => exact ⟨(y185), (wrap64 (x4_1 + 1)), (by first | rfl | (simp; done) | (simp [*]; done)), H', ⟨by have := HK1.out; omega⟩, ⟨by (with_reducible repeat (first | apply Kd.R_alloc | apply Kd.R_drewN | apply Kd.R_drew)); exact HO_3.out⟩, ⟨by repeat (first | (with_reducible first | exact HB.out | apply below_alloc | apply pw_below_drewN | apply below_drew1) | exact HB.out)⟩⟩
       ·rw [if_neg c9] at H
        exact absurd H (by simp)
      ·rw [if_neg c7] at H
       exact absurd H (by simp)
     ·rw [if_neg c6] at H
      have c6b0 : decide (x4_1 < (l0.length : Int)) = false := decide_eq_false c6
      clear c6
      obtain rfl := Option.some.inj H
      go_wp2
      go_ret
      exact ⟨_, by first | rfl | (simp [errW_none, errW_some] <;> rfl) | (simp [*, errW_none, errW_some] <;> rfl), by (with_reducible repeat (first | apply Kd.R_alloc | apply Kd.R_drewN | apply Kd.R_drew)); exact HO_3.out, by repeat (first | (with_reducible first | exact HB.out | apply below_alloc | apply pw_below_drewN | apply below_drew1) | exact HB.out)⟩
  ·rw [if_neg c3] at H
   exact absurd H (by simp)
 ·rw [if_neg c2] at H
  exact absurd H (by simp)

/-! ### impl_firstCode: function 106 -/
def impl_firstCode.l0 : Nat → List Int → Int → Int → Option (Int)
  | 0, _, _, _ => none
  | k + 1, x5, x6, x7 => if x7 < x6 then (if 0 ≤ x7 then (if x7 < (x5.length : Int) then (if (rd x5 x7) = 0 then (impl_firstCode.l0 k x5 x6 (wrap64 (x7 + 1))) else (some (rd x5 x7))) else (none)) else (none)) else (some 0)
def impl_firstCode.f (k : Nat) (l0 : List Int) : Option (Int) := impl_firstCode.l0 k l0 (l0.length : Int) 0
theorem impl_firstCode.mono_l : ∀ k, (∀ y0 y1 y2, LeO (impl_firstCode.l0 k y0 y1 y2) (impl_firstCode.l0 (k + 1) y0 y1 y2))
  | 0 => fun _ _ _ r h => by simp [impl_firstCode.l0] at h
  | k + 1 => by
    have ih0 := impl_firstCode.mono_l k
    · intro y0 y1 y2
      unfold impl_firstCode.l0
      repeat' first
      | (with_reducible exact ih0 _ _ _)
      | (with_reducible exact LeO.refl _)
      | (with_reducible exact LeO.none _)
      | (with_reducible refine LeO.ite ?_ ?_)
      | (with_reducible refine LeO.bind ?_ (fun _ => ?_))
      | exact ih0 _ _ _
      | exact LeO.none _
      | refine LeO.ite ?_ ?_
      | refine LeO.bind ?_ (fun _ => ?_)
theorem impl_firstCode.mono : ∀ a0 k, LeO (impl_firstCode.f k a0) (impl_firstCode.f (k + 1) a0) := by
  intro a0 k
  have ih0 := impl_firstCode.mono_l k
  unfold impl_firstCode.f
  repeat' first
      | (with_reducible exact ih0 _ _ _)
      | (with_reducible exact LeO.refl _)
      | (with_reducible exact LeO.none _)
      | (with_reducible refine LeO.ite ?_ ?_)
      | (with_reducible refine LeO.bind ?_ (fun _ => ?_))
      | exact ih0 _ _ _
      | exact LeO.none _
      | refine LeO.ite ?_ ?_
      | refine LeO.bind ?_ (fun _ => ?_)
set_option maxHeartbeats 8000000 in
set_option maxRecDepth 100000 in
theorem impl_firstCode.calls (k : Nat) (A0 : Option Addr) (c0 : Nat) (l0 : List Int) (r : Int) (w : World) (hr0 : Kd.C (Kd.int .i64) w A0 l0.length l0) (hc0 : l0.length ≤ c0) (h : impl_firstCode.f k l0 = some r) :
    Calls Try.prog 106 #[.slice A0 l0.length c0] w fun e w' => e = .returned (.int .i64 r) ∧ Drawn0 w w' := by
  have HR0 := Aside0.mk hr0
  have HC0 := Aside0.mk hc0
  clear hr0 hc0
  have H : (impl_firstCode.l0 k l0 (l0.length : Int) 0) = some r := h
  clear h
  have H' := Aside0.mk H
  clear H
  go_enter Try.func106, Try.ntmps106
  go_wp2
  go_loopg [7] k (fun kq v7 w' => ∃ (x7_1 : Int), v7 = .int .i64 x7_1 ∧ Aside0 (impl_firstCode.l0 kq l0 (l0.length : Int) x7_1 = some r) ∧ Aside0 (kq ≤ k) ∧ Drawn0 w w')
  case atStart => exact ⟨(0), (by first | rfl | (simp; done) | (simp [*]; done)), H', ⟨Nat.le_refl _⟩, by repeat (first | exact Drawn0.refl _ | apply Drawn0.step)⟩
  case round =>
    clear H'
    try clear c1
    obtain ⟨x7_1, rfl, HA, HK1, ⟨m1, rfl⟩⟩ := hrel
    cases gk with
    | zero => exact absurd HA.out (by simp [impl_firstCode.l0])
    | succ k1 =>
      have H := HA.out
      clear HA
      simp only [impl_firstCode.l0] at H
      by_cases c2 : x7_1 < (l0.length : Int)
      · rw [if_pos c2] at H
        have c2b0 : decide (x7_1 < (l0.length : Int)) = true := decide_eq_true c2
        clear c2
        by_cases c3 : 0 ≤ x7_1
        · rw [if_pos c3] at H
          have c3b0 : decide (0 ≤ x7_1) = true := decide_eq_true c3
          clear c3
          by_cases c4 : x7_1 < (l0.length : Int)
          · rw [if_pos c4] at H
            have c4b0 : decide (x7_1 < (l0.length : Int)) = true := decide_eq_true c4
            clear c4
            by_cases c5 : (rd l0 x7_1) = 0
            · rw [if_pos c5] at H
              have c5b0 : ((rd l0 x7_1) == 0) = true := beq_iff_eq.mpr c5
              have c5b1 : ((rd l0 x7_1) != 0) = false := bne_eq_false_iff_eq.mpr c5
              clear c5
              have H' := Aside0.mk H
              clear H
              have p186 : 0 ≤ (x7_1 : Int) := of_decide_eq_true (by first | (with_reducible assumption) | assumption)
              have q186 : x7_1 < (l0.length : Int) := of_decide_eq_true (by first | (with_reducible assumption) | assumption)
              obtain ⟨ad186, e186, hx186_0⟩ := Kd.at_int HR0.out x7_1 p186 q186
              cases e186
              replace p186 := eq_true p186
              replace q186 := eq_true q186
              go_wp2
              go_roundg k1
              case measure => have := HK1.out; omega
              case rel => exact ⟨(wrap64 (x7_1 + 1)), (by first | rfl | (simp; done) | (simp [*]; done)), H', ⟨by have := HK1.out; omega⟩, by repeat (first | exact Drawn0.refl _ | apply Drawn0.step)⟩
            · rw [if_neg c5] at H
              have c5b0 : ((rd l0 x7_1) == 0) = false := beq_eq_false_iff_ne.mpr c5
              have c5b1 : ((rd l0 x7_1) != 0) = true := bne_iff_ne.mpr c5
              obtain rfl := Option.some.inj H
              have p186 : 0 ≤ (x7_1 : Int) := of_decide_eq_true (by first | (with_reducible assumption) | assumption)
              have q186 : x7_1 < (l0.length : Int) := of_decide_eq_true (by first | (with_reducible assumption) | assumption)
              obtain ⟨ad186, e186, hx186_0⟩ := Kd.at_int HR0.out x7_1 p186 q186
              cases e186
              replace p186 := eq_true p186
              replace q186 := eq_true q186
              go_wp2
              go_ret
              exact ⟨by first | rfl | (simp; done) | (simp [*]; done) | (simp [i64_w]; done), by repeat (first | exact Drawn0.refl _ | apply Drawn0.step)⟩
          · rw [if_neg c4] at H
            exact absurd H (by simp)
        · rw [if_neg c3] at H
          exact absurd H (by simp)
      · rw [if_neg c2] at H
        have c2b0 : decide (x7_1 < (l0.length : Int)) = false := decide_eq_false c2
        clear c2
        obtain rfl := Option.some.inj H
        go_wp2
        go_ret
        exact ⟨by first | rfl | (simp; done) | (simp [*]; done) | (simp [i64_w]; done), by repeat (first | exact Drawn0.refl _ | apply Drawn0.step)⟩

/-! ### impl_codeIf: function 107 -/
def impl_codeIf.f (a0 : Bool) (a1 : Int) : Option (Int) := if a0 = true then (some a1) else (some 0)
set_option maxHeartbeats 8000000 in
set_option maxRecDepth 100000 in
theorem impl_codeIf.calls (a0 : Bool) (a1 : Int) (r : Int) (w : World) (h : impl_codeIf.f a0 a1 = some r) :
    Calls Try.prog 107 #[.bool a0, .int .i64 a1] w fun e w' => e = .returned (.int .i64 r) ∧ Drawn0 w w' := by
  have H : (if a0 = true then (some a1) else (some 0)) = some r := h
  clear h
  by_cases c3 : a0 = true
  · subst c3
    have H1 : (some a1) = some r := by rw [if_pos rfl] at H; exact H
    clear H
    have H := H1
    clear H1
    obtain rfl := Option.some.inj H
    go_enter Try.func107, Try.ntmps107
    go_wp2
    go_ret
    exact ⟨by first | rfl | (simp; done) | (simp [*]; done) | (simp [i64_w]; done), by repeat (first | exact Drawn0.refl _ | apply Drawn0.step)⟩
  · replace c3 := Bool.eq_false_iff.mpr c3
    subst c3
    have H1 : (some 0) = some r := by rw [if_neg (show ¬ (false = true) by decide)] at H; exact H
    clear H
    have H := H1
    clear H1
    obtain rfl := Option.some.inj H
    go_enter Try.func107, Try.ntmps107
    go_wp2
    go_ret
    exact ⟨by first | rfl | (simp; done) | (simp [*]; done) | (simp [i64_w]; done), by repeat (first | exact Drawn0.refl _ | apply Drawn0.step)⟩

-- NOT PRINTED: function 169 (impl_Stop_169)

-- NOT PRINTED: function 118 (impl_Stop_118)

end Go.Proofs.Ytnjcmalmnofbmaa.XFnExactMachineFor
