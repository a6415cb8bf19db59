/- Printed by this repository's own program (wip/tools/xprint.py) for the law FnExactPeriodOfShaft: Lean functions that say what the Go functions compute, and the proofs that the machine comes to just that; no condition beyond those in each statement. -/
import Derived.Test.YtmklaccobbkebabXFnExactPeriodOfShaftx0
import Derived.Test.YtmklaccobbkebabXFnExactPeriodOfShaftx2
namespace Go.Proofs.Ytmklaccobbkebab.XFnExactPeriodOfShaft
open Go.RowKit Go.Proofs.YtmklaccobbkebabW.PrintWords Go.Proofs.YtmklaccobbkebabW.PrintLast Go.Proofs.YtmklaccobbkebabW.PrintMore
attribute [local go_sem] max2_int min2_int max_two min_two max_three min_three max_four min_four   -- for this text's walks alone
set_option linter.unusedVariables false
set_option linter.unusedSimpArgs false

/-! ### spec_l04Ok: function 82 -/
def spec_l04Ok.l0 : Nat → List (S112) → Int → Option (Bool)
  | 0, _, _ => none
  | k + 1, x0, x3 => if x3 < (x0.length : Int) then (if 0 ≤ x3 then ((spec_l00In.f (wrap64 ((rd_T112 x0 x3).f0)) 1 60).bind fun t143 => (if t143 = true then ((spec_l00In.f (wrap64 ((rd_T112 x0 x3).f1)) 1 60).bind fun t145 => (if t145 = true then ((spec_l01Ok.f k ((rd_T112 x0 x3).f3)).bind fun t147 => (if t147 = true then ((spec_l00In.f (wrap64 ((rd_T112 x0 x3).f2)) 0 (wrap64 ((((rd_T112 x0 x3).f3).length : Int) - 1))).bind fun t150 => (if t150 = true then (spec_l04Ok.l0 k x0 (wrap64 (x3 + 1))) else (some false))) else (some false))) else (some false))) else (some false))) else (none)) else (some true)
def spec_l04Ok.f (k : Nat) (l0 : List (S112)) : Option (Bool) := (spec_l00In.f (l0.length : Int) 1 6).bind fun t140 => (if t140 = true then (spec_l04Ok.l0 k l0 0) else (some false))
theorem spec_l04Ok.mono_l : ∀ k, (∀ y0 y1, LeO (spec_l04Ok.l0 k y0 y1) (spec_l04Ok.l0 (k + 1) y0 y1))
  | 0 => fun _ _ r h => by simp [spec_l04Ok.l0] at h
  | k + 1 => by
    have ih0 := spec_l04Ok.mono_l k
    · intro y0 y1
      unfold spec_l04Ok.l0
      repeat' first
      | (with_reducible exact ih0 _ _)
      | (with_reducible exact spec_l01Ok.mono _ _)
      | (with_reducible exact LeO.refl _)
      | (with_reducible exact LeO.none _)
      | (with_reducible refine LeO.ite ?_ ?_)
      | (with_reducible refine LeO.bind ?_ (fun _ => ?_))
      | exact ih0 _ _
      | exact spec_l01Ok.mono _ _
      | exact LeO.none _
      | refine LeO.ite ?_ ?_
      | refine LeO.bind ?_ (fun _ => ?_)
theorem spec_l04Ok.mono : ∀ a0 k, LeO (spec_l04Ok.f k a0) (spec_l04Ok.f (k + 1) a0) := by
  intro a0 k
  have ih0 := spec_l04Ok.mono_l k
  unfold spec_l04Ok.f
  repeat' first
      | (with_reducible exact ih0 _ _)
      | (with_reducible exact spec_l01Ok.mono _ _)
      | (with_reducible exact LeO.refl _)
      | (with_reducible exact LeO.none _)
      | (with_reducible refine LeO.ite ?_ ?_)
      | (with_reducible refine LeO.bind ?_ (fun _ => ?_))
      | exact ih0 _ _
      | exact spec_l01Ok.mono _ _
      | exact LeO.none _
      | refine LeO.ite ?_ ?_
      | refine LeO.bind ?_ (fun _ => ?_)
def spec_l04Ok.T7 : Bool × List (List Nat × List Nat) := (true, [([], []), ([0], [0]), ([1], [1]), ([2], [2]), ([3], [3]), ([4], [4]), ([5], [5]), ([6, 5], [6]), ([7], [7]), ([8, 7], [7, 8]), ([9, 7], [7, 9]), ([10, 7], [7, 10]), ([11, 7], [7, 11]), ([12, 7, 7], [7, 12]), ([13, 7], [7, 13]), ([7, 14], [7, 14]), ([15, 13], [15]), ([16], [16]), ([17, 16], [16, 17]), ([18, 16], [16, 18]), ([19, 16], [16, 19]), ([20, 16, 16], [16, 20]), ([21, 16], [16, 21]), ([16, 22], [16, 22]), ([23, 21], [23]), ([24], [24]), ([25, 24], [24, 25]), ([26, 24], [24, 26]), ([27, 24], [24, 27]), ([28, 24], [24, 28]), ([24], [24]), ([30, 24], [24, 30]), ([31, 24], [24, 31]), ([32, 24], [24, 32]), ([33, 24], [24, 33]), ([34, 24], [24, 34]), ([29, 35, 24, 24], [24, 29, 35]), ([36, 24], [24, 36]), ([24, 37], [24, 37])])
def spec_l04Ok.B7 : List Nat := [0, 1, 3, 7, 15, 31, 63, 127, 255, 511, 1023, 2047, 4095, 8191, 16383, 32767, 65535, 131071, 262143, 524287, 1048575, 2097151, 4194303, 8388607, 16777215, 33554431, 67108863, 134217727, 268435455, 536870911, 33554431, 1107296255, 3254779903, 7549747199, 16139681791, 33319550975, 68719476735, 137438953471, 274877906943]
theorem spec_l04Ok.tab7 : rtab .any (opsOf Try.f82 7) = spec_l04Ok.T7 := by kernel_rfl
theorem spec_l04Ok.bits7 : waitsOk spec_l04Ok.T7.2 spec_l04Ok.B7 = true := by kernel_rfl
set_option maxHeartbeats 8000000 in
set_option maxRecDepth 100000 in
theorem spec_l04Ok.calls (k : Nat) (A0 : Option Addr) (c0 : Nat) (l0 : List (S112)) (r : Bool) (w : World) (hr0 : Kd.C k112 w A0 l0.length l0) (hc0 : l0.length ≤ c0) (h : spec_l04Ok.f k l0 = some r) :
    Calls Try.prog 82 #[.slice A0 l0.length c0] w fun e w' => e = .returned (.bool r) ∧ Below w.heap.size w w' := by
  have HR0 := Aside0.mk hr0
  have HC0 := Aside0.mk hc0
  clear hr0 hc0
  have HB := Aside0.mk (Below.refl w.heap.size w)
  have H : ((spec_l00In.f (l0.length : Int) 1 6).bind fun t140 => (if t140 = true then (spec_l04Ok.l0 k l0 0) else (some false))) = some r := h
  clear h
  replace H := Option.bind_eq_some_iff.mp H
  obtain ⟨t140, A20, H⟩ := H
  replace H : (if t140 = true then (spec_l04Ok.l0 k l0 0) else (some false)) = some r := H
  have A2 := Aside0.mk A20
  clear A20
  by_cases c3 : t140 = true
  · subst c3
    have H1 : (spec_l04Ok.l0 k l0 0) = some r := by rw [if_pos rfl] at H; exact H
    clear H
    have H := H1
    clear H1
    have H' := Aside0.mk H
    clear H
    go_enter Try.func82, Try.ntmps82
    go_wp2_with (first | ((with_reducible refine gate_callee (f := 71) rfl ?_); refine goesL_ (some 7) rfl rfl Try.func71 (by kernel_rfl) rfl #[.int .i64 (l0.length : Int), .int .i64 1, .int .i64 6] rfl (by (try simp only [List.map_toArray, List.map_cons, List.map_nil]); first | done | rfl | (simp only [List.length_drop, List.length_take]; rfl)) ?_; (with_reducible refine (spec_l00In.calls (l0.length : Int) 1 6 true _ A2.out).mono ?_); rintro e w' ⟨rfl, ⟨nd, rfl⟩⟩; refine ⟨_, rfl, ?_⟩))
    go_loopg [3] k (fun kq v3 w' => ∃ (x3_1 : Int), v3 = .int .i64 x3_1 ∧ Aside0 (spec_l04Ok.l0 kq l0 x3_1 = some r) ∧ Aside0 (kq ≤ k) ∧ Aside0 (Below w.heap.size w w'))
    case atStart => exact ⟨(0), (by first | rfl | (simp; done) | (simp [*]; done)), H', ⟨Nat.le_refl _⟩, ⟨by repeat (first | (with_reducible first | exact HB.out | apply below_alloc | apply pw_below_drewN | apply below_drew1) | exact HB.out)⟩⟩
    case round =>
      clear H'
      try clear p2
      try clear c3
      obtain ⟨x3_1, rfl, HA, HK1, HB⟩ := hrel
      cases gk with
      | zero => exact absurd HA.out (by simp [spec_l04Ok.l0])
      | succ k1 =>
        have H := HA.out
        clear HA
        simp only [spec_l04Ok.l0] at H
        by_cases c4 : x3_1 < (l0.length : Int)
        · rw [if_pos c4] at H
          have c4b0 : decide (x3_1 < (l0.length : Int)) = true := decide_eq_true c4
          clear c4
          by_cases c5 : 0 ≤ x3_1
          · rw [if_pos c5] at H
            have c5b0 : decide (0 ≤ x3_1) = true := decide_eq_true c5
            clear c5
            replace H := Option.bind_eq_some_iff.mp H
            obtain ⟨t143, A60, H⟩ := H
            replace H : (if t143 = true then ((spec_l00In.f (wrap64 ((rd_T112 l0 x3_1).f1)) 1 60).bind fun t145 => (if t145 = true then ((spec_l01Ok.f k1 ((rd_T112 l0 x3_1).f3)).bind fun t147 => (if t147 = true then ((spec_l00In.f (wrap64 ((rd_T112 l0 x3_1).f2)) 0 (wrap64 ((((rd_T112 l0 x3_1).f3).length : Int) - 1))).bind fun t150 => (if t150 = true then (spec_l04Ok.l0 k1 l0 (wrap64 (x3_1 + 1))) else (some false))) else (some false))) else (some false))) else (some false)) = some r := H
            have A6 := Aside0.mk A60
            clear A60
            by_cases c7 : t143 = true
            · subst c7
              have H1 : ((spec_l00In.f (wrap64 ((rd_T112 l0 x3_1).f1)) 1 60).bind fun t145 => (if t145 = true then ((spec_l01Ok.f k1 ((rd_T112 l0 x3_1).f3)).bind fun t147 => (if t147 = true then ((spec_l00In.f (wrap64 ((rd_T112 l0 x3_1).f2)) 0 (wrap64 ((((rd_T112 l0 x3_1).f3).length : Int) - 1))).bind fun t150 => (if t150 = true then (spec_l04Ok.l0 k1 l0 (wrap64 (x3_1 + 1))) else (some false))) else (some false))) else (some false))) = some r := by rw [if_pos rfl] at H; exact H
              clear H
              have H := H1
              clear H1
              replace H := Option.bind_eq_some_iff.mp H
              obtain ⟨t145, A80, H⟩ := H
              replace H : (if t145 = true then ((spec_l01Ok.f k1 ((rd_T112 l0 x3_1).f3)).bind fun t147 => (if t147 = true then ((spec_l00In.f (wrap64 ((rd_T112 l0 x3_1).f2)) 0 (wrap64 ((((rd_T112 l0 x3_1).f3).length : Int) - 1))).bind fun t150 => (if t150 = true then (spec_l04Ok.l0 k1 l0 (wrap64 (x3_1 + 1))) else (some false))) else (some false))) else (some false)) = some r := H
              have A8 := Aside0.mk A80
              clear A80
              by_cases c9 : t145 = true
              · subst c9
                have H1 : ((spec_l01Ok.f k1 ((rd_T112 l0 x3_1).f3)).bind fun t147 => (if t147 = true then ((spec_l00In.f (wrap64 ((rd_T112 l0 x3_1).f2)) 0 (wrap64 ((((rd_T112 l0 x3_1).f3).length : Int) - 1))).bind fun t150 => (if t150 = true then (spec_l04Ok.l0 k1 l0 (wrap64 (x3_1 + 1))) else (some false))) else (some false))) = some r := by rw [if_pos rfl] at H; exact H
                clear H
                have H := H1
                clear H1
                replace H := Option.bind_eq_some_iff.mp H
                obtain ⟨t147, A100, H⟩ := H
                replace H : (if t147 = true then ((spec_l00In.f (wrap64 ((rd_T112 l0 x3_1).f2)) 0 (wrap64 ((((rd_T112 l0 x3_1).f3).length : Int) - 1))).bind fun t150 => (if t150 = true then (spec_l04Ok.l0 k1 l0 (wrap64 (x3_1 + 1))) else (some false))) else (some false)) = some r := H
                have A10 := Aside0.mk A100
                clear A100
                by_cases c11 : t147 = true
                · subst c11
                  have H1 : ((spec_l00In.f (wrap64 ((rd_T112 l0 x3_1).f2)) 0 (wrap64 ((((rd_T112 l0 x3_1).f3).length : Int) - 1))).bind fun t150 => (if t150 = true then (spec_l04Ok.l0 k1 l0 (wrap64 (x3_1 + 1))) else (some false))) = some r := by rw [if_pos rfl] at H; exact H
                  clear H
                  have H := H1
                  clear H1
                  replace H := Option.bind_eq_some_iff.mp H
                  obtain ⟨t150, A120, H⟩ := H
                  replace H : (if t150 = true then (spec_l04Ok.l0 k1 l0 (wrap64 (x3_1 + 1))) else (some false)) = some r := H
                  have A12 := Aside0.mk A120
                  clear A120
                  by_cases c13 : t150 = true
                  · subst c13
                    have H1 : (spec_l04Ok.l0 k1 l0 (wrap64 (x3_1 + 1))) = some r := by rw [if_pos rfl] at H; exact H
                    clear H
                    have H := H1
                    clear H1
                    have H' := Aside0.mk H
                    clear H
                    have p141 : 0 ≤ (x3_1 : Int) := of_decide_eq_true (by first | (with_reducible assumption) | assumption)
                    have q141 : x3_1 < (l0.length : Int) := of_decide_eq_true (by first | (with_reducible assumption) | assumption)
                    obtain ⟨ad141, A141_3, c141_3, e141, hx141_0, hx141_1, hx141_2, hx141_3, hl141_3, hi141_3⟩ := at_T112 HR0.out x3_1 p141 q141
                    cases e141
                    replace hx141_0 := (HB.out.cell (World.block_lt_of_cell? w _ hx141_0)).trans hx141_0
                    replace hx141_1 := (HB.out.cell (World.block_lt_of_cell? w _ hx141_1)).trans hx141_1
                    replace hx141_2 := (HB.out.cell (World.block_lt_of_cell? w _ hx141_2)).trans hx141_2
                    replace hx141_3 := (HB.out.cell (World.block_lt_of_cell? w _ hx141_3)).trans hx141_3
                    have HR141_3 := Aside0.mk hi141_3
                    have HC141_3 := Aside0.mk hl141_3
                    clear hi141_3 hl141_3
                    replace p141 := eq_true p141
                    replace q141 := eq_true q141
                    try go_wp2
                    have n0_ := Aside0.mk (below_drew1 HB.out)
                    clear HB
                    have HB := n0_
                    clear n0_
                    have p142 : 0 ≤ (x3_1 : Int) := of_decide_eq_true (by first | (with_reducible assumption) | assumption)
                    have q142 : x3_1 < (l0.length : Int) := of_decide_eq_true (by first | (with_reducible assumption) | assumption)
                    obtain ⟨ad142, A142_3, c142_3, e142, hx142_0, hx142_1, hx142_2, hx142_3, hl142_3, hi142_3⟩ := at_T112 HR0.out x3_1 p142 q142
                    have hw142_3 := hx142_3
                    have hw142_2 := hx142_2
                    have hw142_1 := hx142_1
                    have hw142_0 := hx142_0
                    obtain rfl : ad141 = ad142 := (by injection e142)
                    replace hx142_0 := (HB.out.cell (World.block_lt_of_cell? w _ hx142_0)).trans hx142_0
                    replace hx142_1 := (HB.out.cell (World.block_lt_of_cell? w _ hx142_1)).trans hx142_1
                    replace hx142_2 := (HB.out.cell (World.block_lt_of_cell? w _ hx142_2)).trans hx142_2
                    replace hx142_3 := (HB.out.cell (World.block_lt_of_cell? w _ hx142_3)).trans hx142_3
                    have HR142_3 := Aside0.mk hi142_3
                    have HC142_3 := Aside0.mk hl142_3
                    clear hi142_3 hl142_3
                    replace p142 := eq_true p142
                    replace q142 := eq_true q142
                    have p144 : 0 ≤ (x3_1 : Int) := of_decide_eq_true (by first | (with_reducible assumption) | assumption)
                    have q144 : x3_1 < (l0.length : Int) := of_decide_eq_true (by first | (with_reducible assumption) | assumption)
                    obtain ⟨ad144, A144_3, c144_3, e144, hx144_0, hx144_1, hx144_2, hx144_3, hl144_3, hi144_3⟩ := at_T112 HR0.out x3_1 p144 q144
                    have hw144_3 := hx144_3
                    have hw144_2 := hx144_2
                    have hw144_1 := hx144_1
                    have hw144_0 := hx144_0
                    obtain rfl : ad141 = ad144 := (by injection e144)
                    replace hx144_0 := (HB.out.cell (World.block_lt_of_cell? w _ hx144_0)).trans hx144_0
                    replace hx144_1 := (HB.out.cell (World.block_lt_of_cell? w _ hx144_1)).trans hx144_1
                    replace hx144_2 := (HB.out.cell (World.block_lt_of_cell? w _ hx144_2)).trans hx144_2
                    replace hx144_3 := (HB.out.cell (World.block_lt_of_cell? w _ hx144_3)).trans hx144_3
                    have HR144_3 := Aside0.mk hi144_3
                    have HC144_3 := Aside0.mk hl144_3
                    clear hi144_3 hl144_3
                    replace p144 := eq_true p144
                    replace q144 := eq_true q144
                    have ea_ := Option.some.inj (hx142_3.symm.trans hx144_3)
                    injection ea_ with ea_ en_ ec_
                    subst ea_
                    subst ec_
                    clear en_
                    have p146 : 0 ≤ (x3_1 : Int) := of_decide_eq_true (by first | (with_reducible assumption) | assumption)
                    have q146 : x3_1 < (l0.length : Int) := of_decide_eq_true (by first | (with_reducible assumption) | assumption)
                    obtain ⟨ad146, A146_3, c146_3, e146, hx146_0, hx146_1, hx146_2, hx146_3, hl146_3, hi146_3⟩ := at_T112 HR0.out x3_1 p146 q146
                    have hw146_3 := hx146_3
                    have hw146_2 := hx146_2
                    have hw146_1 := hx146_1
                    have hw146_0 := hx146_0
                    obtain rfl : ad141 = ad146 := (by injection e146)
                    replace hx146_0 := (HB.out.cell (World.block_lt_of_cell? w _ hx146_0)).trans hx146_0
                    replace hx146_1 := (HB.out.cell (World.block_lt_of_cell? w _ hx146_1)).trans hx146_1
                    replace hx146_2 := (HB.out.cell (World.block_lt_of_cell? w _ hx146_2)).trans hx146_2
                    replace hx146_3 := (HB.out.cell (World.block_lt_of_cell? w _ hx146_3)).trans hx146_3
                    have HR146_3 := Aside0.mk hi146_3
                    have HC146_3 := Aside0.mk hl146_3
                    clear hi146_3 hl146_3
                    replace p146 := eq_true p146
                    replace q146 := eq_true q146
                    have ea_ := Option.some.inj (hx142_3.symm.trans hx146_3)
                    injection ea_ with ea_ en_ ec_
                    subst ea_
                    subst ec_
                    clear en_
                    have p148 : 0 ≤ (x3_1 : Int) := of_decide_eq_true (by first | (with_reducible assumption) | assumption)
                    have q148 : x3_1 < (l0.length : Int) := of_decide_eq_true (by first | (with_reducible assumption) | assumption)
                    obtain ⟨ad148, A148_3, c148_3, e148, hx148_0, hx148_1, hx148_2, hx148_3, hl148_3, hi148_3⟩ := at_T112 HR0.out x3_1 p148 q148
                    have hw148_3 := hx148_3
                    have hw148_2 := hx148_2
                    have hw148_1 := hx148_1
                    have hw148_0 := hx148_0
                    obtain rfl : ad141 = ad148 := (by injection e148)
                    replace hx148_0 := (HB.out.cell (World.block_lt_of_cell? w _ hx148_0)).trans hx148_0
                    replace hx148_1 := (HB.out.cell (World.block_lt_of_cell? w _ hx148_1)).trans hx148_1
                    replace hx148_2 := (HB.out.cell (World.block_lt_of_cell? w _ hx148_2)).trans hx148_2
                    replace hx148_3 := (HB.out.cell (World.block_lt_of_cell? w _ hx148_3)).trans hx148_3
                    have HR148_3 := Aside0.mk hi148_3
                    have HC148_3 := Aside0.mk hl148_3
                    clear hi148_3 hl148_3
                    replace p148 := eq_true p148
                    replace q148 := eq_true q148
                    have ea_ := Option.some.inj (hx142_3.symm.trans hx148_3)
                    injection ea_ with ea_ en_ ec_
                    subst ea_
                    subst ec_
                    clear en_
                    have p149 : 0 ≤ (x3_1 : Int) := of_decide_eq_true (by first | (with_reducible assumption) | assumption)
                    have q149 : x3_1 < (l0.length : Int) := of_decide_eq_true (by first | (with_reducible assumption) | assumption)
                    obtain ⟨ad149, A149_3, c149_3, e149, hx149_0, hx149_1, hx149_2, hx149_3, hl149_3, hi149_3⟩ := at_T112 HR0.out x3_1 p149 q149
                    have hw149_3 := hx149_3
                    have hw149_2 := hx149_2
                    have hw149_1 := hx149_1
                    have hw149_0 := hx149_0
                    obtain rfl : ad141 = ad149 := (by injection e149)
                    replace hx149_0 := (HB.out.cell (World.block_lt_of_cell? w _ hx149_0)).trans hx149_0
                    replace hx149_1 := (HB.out.cell (World.block_lt_of_cell? w _ hx149_1)).trans hx149_1
                    replace hx149_2 := (HB.out.cell (World.block_lt_of_cell? w _ hx149_2)).trans hx149_2
                    replace hx149_3 := (HB.out.cell (World.block_lt_of_cell? w _ hx149_3)).trans hx149_3
                    have HR149_3 := Aside0.mk hi149_3
                    have HC149_3 := Aside0.mk hl149_3
                    clear hi149_3 hl149_3
                    replace p149 := eq_true p149
                    replace q149 := eq_true q149
                    have ea_ := Option.some.inj (hx142_3.symm.trans hx149_3)
                    injection ea_ with ea_ en_ ec_
                    subst ea_
                    subst ec_
                    clear en_
                    refine start_ (n := 39) (S := fun w' => w'.cell? (ad141.add ((x3_1).toNat * 4)) = some (.int .i16 ((rd_T112 l0 x3_1).f0)) ∧ w'.cell? ⟨(ad141.add ((x3_1).toNat * 4)).block, (ad141.add ((x3_1).toNat * 4)).off + 1, none⟩ = some (.int .i16 ((rd_T112 l0 x3_1).f1)) ∧ w'.cell? ⟨(ad141.add ((x3_1).toNat * 4)).block, (ad141.add ((x3_1).toNat * 4)).off + 2, none⟩ = some (.int .i16 ((rd_T112 l0 x3_1).f2)) ∧ w'.cell? ⟨(ad141.add ((x3_1).toNat * 4)).block, (ad141.add ((x3_1).toNat * 4)).off + 3, none⟩ = some (.slice A142_3 ((rd_T112 l0 x3_1).f3).length c142_3) ∧ w'.cell? (ad141.add ((x3_1).toNat * 4)) = some (.int .i16 ((rd_T112 l0 x3_1).f0)) ∧ w'.cell? ⟨(ad141.add ((x3_1).toNat * 4)).block, (ad141.add ((x3_1).toNat * 4)).off + 1, none⟩ = some (.int .i16 ((rd_T112 l0 x3_1).f1)) ∧ w'.cell? ⟨(ad141.add ((x3_1).toNat * 4)).block, (ad141.add ((x3_1).toNat * 4)).off + 2, none⟩ = some (.int .i16 ((rd_T112 l0 x3_1).f2)) ∧ w'.cell? ⟨(ad141.add ((x3_1).toNat * 4)).block, (ad141.add ((x3_1).toNat * 4)).off + 3, none⟩ = some (.slice A142_3 ((rd_T112 l0 x3_1).f3).length c142_3) ∧ w'.cell? (ad141.add ((x3_1).toNat * 4)) = some (.int .i16 ((rd_T112 l0 x3_1).f0)) ∧ w'.cell? ⟨(ad141.add ((x3_1).toNat * 4)).block, (ad141.add ((x3_1).toNat * 4)).off + 1, none⟩ = some (.int .i16 ((rd_T112 l0 x3_1).f1)) ∧ w'.cell? ⟨(ad141.add ((x3_1).toNat * 4)).block, (ad141.add ((x3_1).toNat * 4)).off + 2, none⟩ = some (.int .i16 ((rd_T112 l0 x3_1).f2)) ∧ w'.cell? ⟨(ad141.add ((x3_1).toNat * 4)).block, (ad141.add ((x3_1).toNat * 4)).off + 3, none⟩ = some (.slice A142_3 ((rd_T112 l0 x3_1).f3).length c142_3) ∧ w'.cell? (ad141.add ((x3_1).toNat * 4)) = some (.int .i16 ((rd_T112 l0 x3_1).f0)) ∧ w'.cell? ⟨(ad141.add ((x3_1).toNat * 4)).block, (ad141.add ((x3_1).toNat * 4)).off + 1, none⟩ = some (.int .i16 ((rd_T112 l0 x3_1).f1)) ∧ w'.cell? ⟨(ad141.add ((x3_1).toNat * 4)).block, (ad141.add ((x3_1).toNat * 4)).off + 2, none⟩ = some (.int .i16 ((rd_T112 l0 x3_1).f2)) ∧ w'.cell? ⟨(ad141.add ((x3_1).toNat * 4)).block, (ad141.add ((x3_1).toNat * 4)).off + 3, none⟩ = some (.slice A142_3 ((rd_T112 l0 x3_1).f3).length c142_3) ∧ w'.cell? (ad141.add ((x3_1).toNat * 4)) = some (.int .i16 ((rd_T112 l0 x3_1).f0)) ∧ w'.cell? ⟨(ad141.add ((x3_1).toNat * 4)).block, (ad141.add ((x3_1).toNat * 4)).off + 1, none⟩ = some (.int .i16 ((rd_T112 l0 x3_1).f1)) ∧ w'.cell? ⟨(ad141.add ((x3_1).toNat * 4)).block, (ad141.add ((x3_1).toNat * 4)).off + 2, none⟩ = some (.int .i16 ((rd_T112 l0 x3_1).f2)) ∧ w'.cell? ⟨(ad141.add ((x3_1).toNat * 4)).block, (ad141.add ((x3_1).toNat * 4)).off + 3, none⟩ = some (.slice A142_3 ((rd_T112 l0 x3_1).f3).length c142_3)) (ds := []) #[false, false, false, false, false, false, false, false, false, false, false, false, false, false, false, false, false, false, false, false, false, false, false, false, false, false, false, false, false, false, false, false, false, false, false, false, false, false, false] (by kernel_rfl) rfl rfl ⟨(by first | exact ((HB.out.cell (World.block_lt_of_cell? w _ hw142_0)).trans hw142_0) | exact ((HB.out.cell (World.block_lt_of_cell? w _ hv142_0)).trans hv142_0) | exact hx142_0), (by first | exact ((HB.out.cell (World.block_lt_of_cell? w _ hw142_1)).trans hw142_1) | exact ((HB.out.cell (World.block_lt_of_cell? w _ hv142_1)).trans hv142_1) | exact hx142_1), (by first | exact ((HB.out.cell (World.block_lt_of_cell? w _ hw142_2)).trans hw142_2) | exact ((HB.out.cell (World.block_lt_of_cell? w _ hv142_2)).trans hv142_2) | exact hx142_2), (by first | exact ((HB.out.cell (World.block_lt_of_cell? w _ hw142_3)).trans hw142_3) | exact ((HB.out.cell (World.block_lt_of_cell? w _ hv142_3)).trans hv142_3) | exact hx142_3), (by first | exact ((HB.out.cell (World.block_lt_of_cell? w _ hw144_0)).trans hw144_0) | exact ((HB.out.cell (World.block_lt_of_cell? w _ hv144_0)).trans hv144_0) | exact hx144_0), (by first | exact ((HB.out.cell (World.block_lt_of_cell? w _ hw144_1)).trans hw144_1) | exact ((HB.out.cell (World.block_lt_of_cell? w _ hv144_1)).trans hv144_1) | exact hx144_1), (by first | exact ((HB.out.cell (World.block_lt_of_cell? w _ hw144_2)).trans hw144_2) | exact ((HB.out.cell (World.block_lt_of_cell? w _ hv144_2)).trans hv144_2) | exact hx144_2), (by first | exact ((HB.out.cell (World.block_lt_of_cell? w _ hw144_3)).trans hw144_3) | exact ((HB.out.cell (World.block_lt_of_cell? w _ hv144_3)).trans hv144_3) | exact hx144_3), (by first | exact ((HB.out.cell (World.block_lt_of_cell? w _ hw146_0)).trans hw146_0) | exact ((HB.out.cell (World.block_lt_of_cell? w _ hv146_0)).trans hv146_0) | exact hx146_0), (by first | exact ((HB.out.cell (World.block_lt_of_cell? w _ hw146_1)).trans hw146_1) | exact ((HB.out.cell (World.block_lt_of_cell? w _ hv146_1)).trans hv146_1) | exact hx146_1), (by first | exact ((HB.out.cell (World.block_lt_of_cell? w _ hw146_2)).trans hw146_2) | exact ((HB.out.cell (World.block_lt_of_cell? w _ hv146_2)).trans hv146_2) | exact hx146_2), (by first | exact ((HB.out.cell (World.block_lt_of_cell? w _ hw146_3)).trans hw146_3) | exact ((HB.out.cell (World.block_lt_of_cell? w _ hv146_3)).trans hv146_3) | exact hx146_3), (by first | exact ((HB.out.cell (World.block_lt_of_cell? w _ hw148_0)).trans hw148_0) | exact ((HB.out.cell (World.block_lt_of_cell? w _ hv148_0)).trans hv148_0) | exact hx148_0), (by first | exact ((HB.out.cell (World.block_lt_of_cell? w _ hw148_1)).trans hw148_1) | exact ((HB.out.cell (World.block_lt_of_cell? w _ hv148_1)).trans hv148_1) | exact hx148_1), (by first | exact ((HB.out.cell (World.block_lt_of_cell? w _ hw148_2)).trans hw148_2) | exact ((HB.out.cell (World.block_lt_of_cell? w _ hv148_2)).trans hv148_2) | exact hx148_2), (by first | exact ((HB.out.cell (World.block_lt_of_cell? w _ hw148_3)).trans hw148_3) | exact ((HB.out.cell (World.block_lt_of_cell? w _ hv148_3)).trans hv148_3) | exact hx148_3), (by first | exact ((HB.out.cell (World.block_lt_of_cell? w _ hw149_0)).trans hw149_0) | exact ((HB.out.cell (World.block_lt_of_cell? w _ hv149_0)).trans hv149_0) | exact hx149_0), (by first | exact ((HB.out.cell (World.block_lt_of_cell? w _ hw149_1)).trans hw149_1) | exact ((HB.out.cell (World.block_lt_of_cell? w _ hv149_1)).trans hv149_1) | exact hx149_1), (by first | exact ((HB.out.cell (World.block_lt_of_cell? w _ hw149_2)).trans hw149_2) | exact ((HB.out.cell (World.block_lt_of_cell? w _ hv149_2)).trans hv149_2) | exact hx149_2), (by first | exact ((HB.out.cell (World.block_lt_of_cell? w _ hw149_3)).trans hw149_3) | exact ((HB.out.cell (World.block_lt_of_cell? w _ hv149_3)).trans hv149_3) | exact hx149_3)⟩ (fun hHeld => ?_); refine with_tabW spec_l04Ok.tab7 spec_l04Ok.bits7 (fun HT_ HW_ => ?_)
                    generalize wr.drew = w14 at HB HR142_3 HR144_3 HR146_3 HR148_3 HR149_3 hx142_0 hx142_1 hx142_2 hx142_3 hx144_0 hx144_1 hx144_2 hx144_3 hx146_0 hx146_1 hx146_2 hx146_3 hx148_0 hx148_1 hx148_2 hx148_3 hx149_0 hx149_1 hx149_2 hx149_3 hHeld ⊢
                    refine pure_ (i := 0) (N := some 18) (v := ?_) (a' := ?_) #[true, false, false, false, false, false, false, false, false, false, false, false, false, false, false, false, false, false, false, false, false, false, false, false, false, false, false, false, false, false, false, false, false, false, false, false, false, false, false] rfl rfl (any_of HT_.out (by kernel_rfl)) (fun _ _ _ h => h) (Or.inl ⟨by rfl, ?_⟩) ?_ ?_
                    rotate_left
                    · intro w'
                      go_simp
                      with_reducible rfl
                    rotate_left
                    · simp only [Act.put, List.setIfInBounds_toArray, List.set_cons_zero, List.set_cons_succ, i64_w, i32_w]
                      rfl
                    refine pure_ (i := 1) (N := some 19) (v := ?_) (a' := ?_) #[true, true, false, false, false, false, false, false, false, false, false, false, false, false, false, false, false, false, false, false, false, false, false, false, false, false, false, false, false, false, false, false, false, false, false, false, false, false, false] rfl rfl (any_of HT_.out (by kernel_rfl)) (fun _ _ _ h => h) (Or.inl ⟨by rfl, ?_⟩) ?_ ?_
                    rotate_left
                    · intro w'
                      go_simp
                      with_reducible rfl
                    rotate_left
                    · simp only [Act.put, List.setIfInBounds_toArray, List.set_cons_zero, List.set_cons_succ, i64_w, i32_w]
                      rfl
                    refine pure_ (i := 2) (N := some 20) (v := ?_) (a' := ?_) #[true, true, true, false, false, false, false, false, false, false, false, false, false, false, false, false, false, false, false, false, false, false, false, false, false, false, false, false, false, false, false, false, false, false, false, false, false, false, false] rfl rfl (any_of HT_.out (by kernel_rfl)) (fun _ _ _ h => h) (Or.inl ⟨by rfl, ?_⟩) ?_ ?_
                    rotate_left
                    · intro w'
                      go_simp
                      with_reducible rfl
                    rotate_left
                    · simp only [Act.put, List.setIfInBounds_toArray, List.set_cons_zero, List.set_cons_succ, i64_w, i32_w]
                      rfl
                    refine take_ (i := 3) (N := some 21) (v := ?_) (a' := ?_) #[true, true, true, true, false, false, false, false, false, false, false, false, false, false, false, false, false, false, false, false, false, false, false, false, false, false, false, false, false, false, false, false, false, false, false, false, false, false, false] rfl rfl (take_ofW HT_.out HW_.out (by kernel_rfl)) (fun _ _ _ h => h) (Or.inl ⟨by rfl, ?_⟩) hHeld ?_ ?_
                    rotate_left
                    · rintro w' ⟨s0, s1, s2, s3, s4, s5, s6, s7, s8, s9, s10, s11, s12, s13, s14, s15, s16, s17, s18, s19⟩
                      go_simp
                      with_reducible rfl
                    rotate_left
                    · simp only [Act.put, List.setIfInBounds_toArray, List.set_cons_zero, List.set_cons_succ, i64_w, i32_w]
                      rfl
                    refine pure_ (i := 4) (N := some 22) (v := ?_) (a' := ?_) #[true, true, true, true, true, false, false, false, false, false, false, false, false, false, false, false, false, false, false, false, false, false, false, false, false, false, false, false, false, false, false, false, false, false, false, false, false, false, false] rfl rfl (any_of HT_.out (by kernel_rfl)) (fun _ _ _ h => h) (Or.inl ⟨by rfl, ?_⟩) ?_ ?_
                    rotate_left
                    · intro w'
                      go_simp
                      with_reducible rfl
                    rotate_left
                    · simp only [Act.put, List.setIfInBounds_toArray, List.set_cons_zero, List.set_cons_succ, i64_w, i32_w]
                      rfl
                    refine one_ (i := 5) (N := some 23) #[true, true, true, true, true, true, false, false, false, false, false, false, false, false, false, false, false, false, false, false, false, false, false, false, false, false, false, false, false, false, false, false, false, false, false, false, false, false, false] rfl rfl (one_of HT_.out (by kernel_rfl)) (by decide) (fun K hK => ?_)
                    refine goes_ Try.func71 (by kernel_rfl) rfl #[.int .i64 (wrap64 ((rd_T112 l0 x3_1).f0)), .int .i64 1, .int .i64 60] (by rfl) rfl rfl (by (try simp only [List.map_toArray, List.map_cons, List.map_nil]); first | done | rfl | (simp only [List.length_drop, List.length_take]; rfl)) ?_
                    with_reducible refine (spec_l00In.calls (wrap64 ((rd_T112 l0 x3_1).f0)) 1 60 true _ A6.out).mono ?_
                    rintro e w' ⟨rfl, ⟨nd, rfl⟩⟩
                    refine ⟨_, rfl, ?_⟩
                    refine hK.out _ _ ⟨(by first | exact ((HB.out.cell (World.block_lt_of_cell? w _ hw142_0)).trans hw142_0) | exact ((HB.out.cell (World.block_lt_of_cell? w _ hv142_0)).trans hv142_0) | exact hx142_0), (by first | exact ((HB.out.cell (World.block_lt_of_cell? w _ hw142_1)).trans hw142_1) | exact ((HB.out.cell (World.block_lt_of_cell? w _ hv142_1)).trans hv142_1) | exact hx142_1), (by first | exact ((HB.out.cell (World.block_lt_of_cell? w _ hw142_2)).trans hw142_2) | exact ((HB.out.cell (World.block_lt_of_cell? w _ hv142_2)).trans hv142_2) | exact hx142_2), (by first | exact ((HB.out.cell (World.block_lt_of_cell? w _ hw142_3)).trans hw142_3) | exact ((HB.out.cell (World.block_lt_of_cell? w _ hv142_3)).trans hv142_3) | exact hx142_3), (by first | exact ((HB.out.cell (World.block_lt_of_cell? w _ hw144_0)).trans hw144_0) | exact ((HB.out.cell (World.block_lt_of_cell? w _ hv144_0)).trans hv144_0) | exact hx144_0), (by first | exact ((HB.out.cell (World.block_lt_of_cell? w _ hw144_1)).trans hw144_1) | exact ((HB.out.cell (World.block_lt_of_cell? w _ hv144_1)).trans hv144_1) | exact hx144_1), (by first | exact ((HB.out.cell (World.block_lt_of_cell? w _ hw144_2)).trans hw144_2) | exact ((HB.out.cell (World.block_lt_of_cell? w _ hv144_2)).trans hv144_2) | exact hx144_2), (by first | exact ((HB.out.cell (World.block_lt_of_cell? w _ hw144_3)).trans hw144_3) | exact ((HB.out.cell (World.block_lt_of_cell? w _ hv144_3)).trans hv144_3) | exact hx144_3), (by first | exact ((HB.out.cell (World.block_lt_of_cell? w _ hw146_0)).trans hw146_0) | exact ((HB.out.cell (World.block_lt_of_cell? w _ hv146_0)).trans hv146_0) | exact hx146_0), (by first | exact ((HB.out.cell (World.block_lt_of_cell? w _ hw146_1)).trans hw146_1) | exact ((HB.out.cell (World.block_lt_of_cell? w _ hv146_1)).trans hv146_1) | exact hx146_1), (by first | exact ((HB.out.cell (World.block_lt_of_cell? w _ hw146_2)).trans hw146_2) | exact ((HB.out.cell (World.block_lt_of_cell? w _ hv146_2)).trans hv146_2) | exact hx146_2), (by first | exact ((HB.out.cell (World.block_lt_of_cell? w _ hw146_3)).trans hw146_3) | exact ((HB.out.cell (World.block_lt_of_cell? w _ hv146_3)).trans hv146_3) | exact hx146_3), (by first | exact ((HB.out.cell (World.block_lt_of_cell? w _ hw148_0)).trans hw148_0) | exact ((HB.out.cell (World.block_lt_of_cell? w _ hv148_0)).trans hv148_0) | exact hx148_0), (by first | exact ((HB.out.cell (World.block_lt_of_cell? w _ hw148_1)).trans hw148_1) | exact ((HB.out.cell (World.block_lt_of_cell? w _ hv148_1)).trans hv148_1) | exact hx148_1), (by first | exact ((HB.out.cell (World.block_lt_of_cell? w _ hw148_2)).trans hw148_2) | exact ((HB.out.cell (World.block_lt_of_cell? w _ hv148_2)).trans hv148_2) | exact hx148_2), (by first | exact ((HB.out.cell (World.block_lt_of_cell? w _ hw148_3)).trans hw148_3) | exact ((HB.out.cell (World.block_lt_of_cell? w _ hv148_3)).trans hv148_3) | exact hx148_3), (by first | exact ((HB.out.cell (World.block_lt_of_cell? w _ hw149_0)).trans hw149_0) | exact ((HB.out.cell (World.block_lt_of_cell? w _ hv149_0)).trans hv149_0) | exact hx149_0), (by first | exact ((HB.out.cell (World.block_lt_of_cell? w _ hw149_1)).trans hw149_1) | exact ((HB.out.cell (World.block_lt_of_cell? w _ hv149_1)).trans hv149_1) | exact hx149_1), (by first | exact ((HB.out.cell (World.block_lt_of_cell? w _ hw149_2)).trans hw149_2) | exact ((HB.out.cell (World.block_lt_of_cell? w _ hv149_2)).trans hv149_2) | exact hx149_2), (by first | exact ((HB.out.cell (World.block_lt_of_cell? w _ hw149_3)).trans hw149_3) | exact ((HB.out.cell (World.block_lt_of_cell? w _ hv149_3)).trans hv149_3) | exact hx149_3)⟩ (fun hHeld => ?_)
                    clear hK K
                    refine norm_ (a' := ?_) ?_ ?_
                    rotate_left
                    · show Act.put _ (some 23) _ = _
                      simp only [Act.put, List.setIfInBounds_toArray, List.set_cons_zero, List.set_cons_succ, i64_w, i32_w]
                      rfl
                    refine pure_ (i := 6) (N := some 24) (v := ?_) (a' := ?_) #[true, true, true, true, true, true, true, false, false, false, false, false, false, false, false, false, false, false, false, false, false, false, false, false, false, false, false, false, false, false, false, false, false, false, false, false, false, false, false] rfl rfl (any_of HT_.out (by kernel_rfl)) (fun _ _ _ h => h) (Or.inl ⟨by rfl, ?_⟩) ?_ ?_
                    rotate_left
                    · intro w'
                      go_simp
                      with_reducible rfl
                    rotate_left
                    · simp only [Act.put, List.setIfInBounds_toArray, List.set_cons_zero, List.set_cons_succ, i64_w, i32_w]
                      rfl
                    refine pure_ (i := 7) (N := some 25) (v := ?_) (a' := ?_) #[true, true, true, true, true, true, true, true, false, false, false, false, false, false, false, false, false, false, false, false, false, false, false, false, false, false, false, false, false, false, false, false, false, false, false, false, false, false, false] rfl rfl (any_of HT_.out (by kernel_rfl)) (fun _ _ _ h => h) (Or.inl ⟨by rfl, ?_⟩) ?_ ?_
                    rotate_left
                    · intro w'
                      go_simp
                      with_reducible rfl
                    rotate_left
                    · simp only [Act.put, List.setIfInBounds_toArray, List.set_cons_zero, List.set_cons_succ, i64_w, i32_w]
                      rfl
                    refine pure_ (i := 8) (N := some 26) (v := ?_) (a' := ?_) #[true, true, true, true, true, true, true, true, true, false, false, false, false, false, false, false, false, false, false, false, false, false, false, false, false, false, false, false, false, false, false, false, false, false, false, false, false, false, false] rfl rfl (any_of HT_.out (by kernel_rfl)) (fun _ _ _ h => h) (Or.inl ⟨by rfl, ?_⟩) ?_ ?_
                    rotate_left
                    · intro w'
                      go_simp
                      with_reducible rfl
                    rotate_left
                    · simp only [Act.put, List.setIfInBounds_toArray, List.set_cons_zero, List.set_cons_succ, i64_w, i32_w]
                      rfl
                    refine pure_ (i := 9) (N := some 27) (v := ?_) (a' := ?_) #[true, true, true, true, true, true, true, true, true, true, false, false, false, false, false, false, false, false, false, false, false, false, false, false, false, false, false, false, false, false, false, false, false, false, false, false, false, false, false] rfl rfl (any_of HT_.out (by kernel_rfl)) (fun _ _ _ h => h) (Or.inl ⟨by rfl, ?_⟩) ?_ ?_
                    rotate_left
                    · intro w'
                      go_simp
                      with_reducible rfl
                    rotate_left
                    · simp only [Act.put, List.setIfInBounds_toArray, List.set_cons_zero, List.set_cons_succ, i64_w, i32_w]
                      rfl
                    refine pure_ (i := 10) (N := some 28) (v := ?_) (a' := ?_) #[true, true, true, true, true, true, true, true, true, true, true, false, false, false, false, false, false, false, false, false, false, false, false, false, false, false, false, false, false, false, false, false, false, false, false, false, false, false, false] rfl rfl (any_of HT_.out (by kernel_rfl)) (fun _ _ _ h => h) (Or.inl ⟨by rfl, ?_⟩) ?_ ?_
                    rotate_left
                    · intro w'
                      go_simp
                      with_reducible rfl
                    rotate_left
                    · simp only [Act.put, List.setIfInBounds_toArray, List.set_cons_zero, List.set_cons_succ, i64_w, i32_w]
                      rfl
                    refine take_ (i := 11) (N := some 29) (v := ?_) (a' := ?_) #[true, true, true, true, true, true, true, true, true, true, true, true, false, false, false, false, false, false, false, false, false, false, false, false, false, false, false, false, false, false, false, false, false, false, false, false, false, false, false] rfl rfl (take_ofW HT_.out HW_.out (by kernel_rfl)) (fun _ _ _ h => h) (Or.inl ⟨by rfl, ?_⟩) hHeld ?_ ?_
                    rotate_left
                    · rintro w' ⟨s0, s1, s2, s3, s4, s5, s6, s7, s8, s9, s10, s11, s12, s13, s14, s15, s16, s17, s18, s19⟩
                      go_simp
                      with_reducible rfl
                    rotate_left
                    · simp only [Act.put, List.setIfInBounds_toArray, List.set_cons_zero, List.set_cons_succ, i64_w, i32_w]
                      rfl
                    refine pure_ (i := 12) (N := some 30) (v := ?_) (a' := ?_) #[true, true, true, true, true, true, true, true, true, true, true, true, true, false, false, false, false, false, false, false, false, false, false, false, false, false, false, false, false, false, false, false, false, false, false, false, false, false, false] rfl rfl (any_of HT_.out (by kernel_rfl)) (fun _ _ _ h => h) (Or.inl ⟨by rfl, ?_⟩) ?_ ?_
                    rotate_left
                    · intro w'
                      go_simp
                      with_reducible rfl
                    rotate_left
                    · simp only [Act.put, List.setIfInBounds_toArray, List.set_cons_zero, List.set_cons_succ, i64_w, i32_w]
                      rfl
                    refine one_ (i := 13) (N := some 31) #[true, true, true, true, true, true, true, true, true, true, true, true, true, true, false, false, false, false, false, false, false, false, false, false, false, false, false, false, false, false, false, false, false, false, false, false, false, false, false] rfl rfl (one_of HT_.out (by kernel_rfl)) (by decide) (fun K hK => ?_)
                    refine goes_ Try.func71 (by kernel_rfl) rfl #[.int .i64 (wrap64 ((rd_T112 l0 x3_1).f1)), .int .i64 1, .int .i64 60] (by rfl) rfl rfl (by (try simp only [List.map_toArray, List.map_cons, List.map_nil]); first | done | rfl | (simp only [List.length_drop, List.length_take]; rfl)) ?_
                    with_reducible refine (spec_l00In.calls (wrap64 ((rd_T112 l0 x3_1).f1)) 1 60 true _ A8.out).mono ?_
                    rintro e w' ⟨rfl, ⟨nd, rfl⟩⟩
                    refine ⟨_, rfl, ?_⟩
                    refine hK.out _ _ ⟨(by first | exact ((HB.out.cell (World.block_lt_of_cell? w _ hw142_0)).trans hw142_0) | exact ((HB.out.cell (World.block_lt_of_cell? w _ hv142_0)).trans hv142_0) | exact hx142_0), (by first | exact ((HB.out.cell (World.block_lt_of_cell? w _ hw142_1)).trans hw142_1) | exact ((HB.out.cell (World.block_lt_of_cell? w _ hv142_1)).trans hv142_1) | exact hx142_1), (by first | exact ((HB.out.cell (World.block_lt_of_cell? w _ hw142_2)).trans hw142_2) | exact ((HB.out.cell (World.block_lt_of_cell? w _ hv142_2)).trans hv142_2) | exact hx142_2), (by first | exact ((HB.out.cell (World.block_lt_of_cell? w _ hw142_3)).trans hw142_3) | exact ((HB.out.cell (World.block_lt_of_cell? w _ hv142_3)).trans hv142_3) | exact hx142_3), (by first | exact ((HB.out.cell (World.block_lt_of_cell? w _ hw144_0)).trans hw144_0) | exact ((HB.out.cell (World.block_lt_of_cell? w _ hv144_0)).trans hv144_0) | exact hx144_0), (by first | exact ((HB.out.cell (World.block_lt_of_cell? w _ hw144_1)).trans hw144_1) | exact ((HB.out.cell (World.block_lt_of_cell? w _ hv144_1)).trans hv144_1) | exact hx144_1), (by first | exact ((HB.out.cell (World.block_lt_of_cell? w _ hw144_2)).trans hw144_2) | exact ((HB.out.cell (World.block_lt_of_cell? w _ hv144_2)).trans hv144_2) | exact hx144_2), (by first | exact ((HB.out.cell (World.block_lt_of_cell? w _ hw144_3)).trans hw144_3) | exact ((HB.out.cell (World.block_lt_of_cell? w _ hv144_3)).trans hv144_3) | exact hx144_3), (by first | exact ((HB.out.cell (World.block_lt_of_cell? w _ hw146_0)).trans hw146_0) | exact ((HB.out.cell (World.block_lt_of_cell? w _ hv146_0)).trans hv146_0) | exact hx146_0), (by first | exact ((HB.out.cell (World.block_lt_of_cell? w _ hw146_1)).trans hw146_1) | exact ((HB.out.cell (World.block_lt_of_cell? w _ hv146_1)).trans hv146_1) | exact hx146_1), (by first | exact ((HB.out.cell (World.block_lt_of_cell? w _ hw146_2)).trans hw146_2) | exact ((HB.out.cell (World.block_lt_of_cell? w _ hv146_2)).trans hv146_2) | exact hx146_2), (by first | exact ((HB.out.cell (World.block_lt_of_cell? w _ hw146_3)).trans hw146_3) | exact ((HB.out.cell (World.block_lt_of_cell? w _ hv146_3)).trans hv146_3) | exact hx146_3), (by first | exact ((HB.out.cell (World.block_lt_of_cell? w _ hw148_0)).trans hw148_0) | exact ((HB.out.cell (World.block_lt_of_cell? w _ hv148_0)).trans hv148_0) | exact hx148_0), (by first | exact ((HB.out.cell (World.block_lt_of_cell? w _ hw148_1)).trans hw148_1) | exact ((HB.out.cell (World.block_lt_of_cell? w _ hv148_1)).trans hv148_1) | exact hx148_1), (by first | exact ((HB.out.cell (World.block_lt_of_cell? w _ hw148_2)).trans hw148_2) | exact ((HB.out.cell (World.block_lt_of_cell? w _ hv148_2)).trans hv148_2) | exact hx148_2), (by first | exact ((HB.out.cell (World.block_lt_of_cell? w _ hw148_3)).trans hw148_3) | exact ((HB.out.cell (World.block_lt_of_cell? w _ hv148_3)).trans hv148_3) | exact hx148_3), (by first | exact ((HB.out.cell (World.block_lt_of_cell? w _ hw149_0)).trans hw149_0) | exact ((HB.out.cell (World.block_lt_of_cell? w _ hv149_0)).trans hv149_0) | exact hx149_0), (by first | exact ((HB.out.cell (World.block_lt_of_cell? w _ hw149_1)).trans hw149_1) | exact ((HB.out.cell (World.block_lt_of_cell? w _ hv149_1)).trans hv149_1) | exact hx149_1), (by first | exact ((HB.out.cell (World.block_lt_of_cell? w _ hw149_2)).trans hw149_2) | exact ((HB.out.cell (World.block_lt_of_cell? w _ hv149_2)).trans hv149_2) | exact hx149_2), (by first | exact ((HB.out.cell (World.block_lt_of_cell? w _ hw149_3)).trans hw149_3) | exact ((HB.out.cell (World.block_lt_of_cell? w _ hv149_3)).trans hv149_3) | exact hx149_3)⟩ (fun hHeld => ?_)
                    clear hK K
                    refine norm_ (a' := ?_) ?_ ?_
                    rotate_left
                    · show Act.put _ (some 31) _ = _
                      simp only [Act.put, List.setIfInBounds_toArray, List.set_cons_zero, List.set_cons_succ, i64_w, i32_w]
                      rfl
                    refine pure_ (i := 14) (N := some 32) (v := ?_) (a' := ?_) #[true, true, true, true, true, true, true, true, true, true, true, true, true, true, true, false, false, false, false, false, false, false, false, false, false, false, false, false, false, false, false, false, false, false, false, false, false, false, false] rfl rfl (any_of HT_.out (by kernel_rfl)) (fun _ _ _ h => h) (Or.inl ⟨by rfl, ?_⟩) ?_ ?_
                    rotate_left
                    · intro w'
                      go_simp
                      with_reducible rfl
                    rotate_left
                    · simp only [Act.put, List.setIfInBounds_toArray, List.set_cons_zero, List.set_cons_succ, i64_w, i32_w]
                      rfl
                    refine pure_ (i := 15) (N := some 33) (v := ?_) (a' := ?_) #[true, true, true, true, true, true, true, true, true, true, true, true, true, true, true, true, false, false, false, false, false, false, false, false, false, false, false, false, false, false, false, false, false, false, false, false, false, false, false] rfl rfl (any_of HT_.out (by kernel_rfl)) (fun _ _ _ h => h) (Or.inl ⟨by rfl, ?_⟩) ?_ ?_
                    rotate_left
                    · intro w'
                      go_simp
                      with_reducible rfl
                    rotate_left
                    · simp only [Act.put, List.setIfInBounds_toArray, List.set_cons_zero, List.set_cons_succ, i64_w, i32_w]
                      rfl
                    refine pure_ (i := 16) (N := some 34) (v := ?_) (a' := ?_) #[true, true, true, true, true, true, true, true, true, true, true, true, true, true, true, true, true, false, false, false, false, false, false, false, false, false, false, false, false, false, false, false, false, false, false, false, false, false, false] rfl rfl (any_of HT_.out (by kernel_rfl)) (fun _ _ _ h => h) (Or.inl ⟨by rfl, ?_⟩) ?_ ?_
                    rotate_left
                    · intro w'
                      go_simp
                      with_reducible rfl
                    rotate_left
                    · simp only [Act.put, List.setIfInBounds_toArray, List.set_cons_zero, List.set_cons_succ, i64_w, i32_w]
                      rfl
                    refine pure_ (i := 17) (N := some 35) (v := ?_) (a' := ?_) #[true, true, true, true, true, true, true, true, true, true, true, true, true, true, true, true, true, true, false, false, false, false, false, false, false, false, false, false, false, false, false, false, false, false, false, false, false, false, false] rfl rfl (any_of HT_.out (by kernel_rfl)) (fun _ _ _ h => h) (Or.inl ⟨by rfl, ?_⟩) ?_ ?_
                    rotate_left
                    · intro w'
                      go_simp
                      with_reducible rfl
                    rotate_left
                    · simp only [Act.put, List.setIfInBounds_toArray, List.set_cons_zero, List.set_cons_succ, i64_w, i32_w]
                      rfl
                    refine pure_ (i := 18) (N := some 36) (v := ?_) (a' := ?_) #[true, true, true, true, true, true, true, true, true, true, true, true, true, true, true, true, true, true, true, false, false, false, false, false, false, false, false, false, false, false, false, false, false, false, false, false, false, false, false] rfl rfl (any_of HT_.out (by kernel_rfl)) (fun _ _ _ h => h) (Or.inl ⟨by rfl, ?_⟩) ?_ ?_
                    rotate_left
                    · intro w'
                      go_simp
                      with_reducible rfl
                    rotate_left
                    · simp only [Act.put, List.setIfInBounds_toArray, List.set_cons_zero, List.set_cons_succ, i64_w, i32_w]
                      rfl
                    refine pure_ (i := 19) (N := some 37) (v := ?_) (a' := ?_) #[true, true, true, true, true, true, true, true, true, true, true, true, true, true, true, true, true, true, true, true, false, false, false, false, false, false, false, false, false, false, false, false, false, false, false, false, false, false, false] rfl rfl (any_of HT_.out (by kernel_rfl)) (fun _ _ _ h => h) (Or.inl ⟨by rfl, ?_⟩) ?_ ?_
                    rotate_left
                    · intro w'
                      go_simp
                      with_reducible rfl
                    rotate_left
                    · simp only [Act.put, List.setIfInBounds_toArray, List.set_cons_zero, List.set_cons_succ, i64_w, i32_w]
                      rfl
                    refine take_ (i := 20) (N := some 38) (v := ?_) (a' := ?_) #[true, true, true, true, true, true, true, true, true, true, true, true, true, true, true, true, true, true, true, true, true, false, false, false, false, false, false, false, false, false, false, false, false, false, false, false, false, false, false] rfl rfl (take_ofW HT_.out HW_.out (by kernel_rfl)) (fun _ _ _ h => h) (Or.inl ⟨by rfl, ?_⟩) hHeld ?_ ?_
                    rotate_left
                    · rintro w' ⟨s0, s1, s2, s3, s4, s5, s6, s7, s8, s9, s10, s11, s12, s13, s14, s15, s16, s17, s18, s19⟩
                      go_simp
                      with_reducible rfl
                    rotate_left
                    · simp only [Act.put, List.setIfInBounds_toArray, List.set_cons_zero, List.set_cons_succ, i64_w, i32_w]
                      rfl
                    refine one_ (i := 21) (N := some 39) #[true, true, true, true, true, true, true, true, true, true, true, true, true, true, true, true, true, true, true, true, true, true, false, false, false, false, false, false, false, false, false, false, false, false, false, false, false, false, false] rfl rfl (one_of HT_.out (by kernel_rfl)) (by decide) (fun K hK => ?_)
                    refine goes_ Try.func65 (by kernel_rfl) rfl #[.slice A142_3 ((rd_T112 l0 x3_1).f3).length c142_3] (by rfl) rfl rfl (by (try simp only [List.map_toArray, List.map_cons, List.map_nil]); first | done | rfl | (simp only [List.length_drop, List.length_take]; rfl)) ?_
                    with_reducible refine (spec_l01Ok.calls k1 _ _ ((rd_T112 l0 x3_1).f3) true _ ?side1 ?side2 A10.out).mono ?_
                    (case side1 => repeat (first | exact (Kd.C_below HR146_3.out (by repeat (first | (with_reducible first | exact HB.out | apply below_alloc | apply pw_below_drewN | apply below_drew1) | exact HB.out))) | (with_reducible refine Kd.C_alloc ?_ _) | (with_reducible refine Kd.C_drewN ?_ _) | (with_reducible refine Kd.C_drew ?_)))
                    (case side2 => exact HC146_3.out)
                    rintro e w' ⟨rfl, ⟨nd, rfl⟩⟩
                    refine ⟨_, rfl, ?_⟩
                    refine hK.out _ _ ⟨(by first | exact ((HB.out.cell (World.block_lt_of_cell? w _ hw142_0)).trans hw142_0) | exact ((HB.out.cell (World.block_lt_of_cell? w _ hv142_0)).trans hv142_0) | exact hx142_0), (by first | exact ((HB.out.cell (World.block_lt_of_cell? w _ hw142_1)).trans hw142_1) | exact ((HB.out.cell (World.block_lt_of_cell? w _ hv142_1)).trans hv142_1) | exact hx142_1), (by first | exact ((HB.out.cell (World.block_lt_of_cell? w _ hw142_2)).trans hw142_2) | exact ((HB.out.cell (World.block_lt_of_cell? w _ hv142_2)).trans hv142_2) | exact hx142_2), (by first | exact ((HB.out.cell (World.block_lt_of_cell? w _ hw142_3)).trans hw142_3) | exact ((HB.out.cell (World.block_lt_of_cell? w _ hv142_3)).trans hv142_3) | exact hx142_3), (by first | exact ((HB.out.cell (World.block_lt_of_cell? w _ hw144_0)).trans hw144_0) | exact ((HB.out.cell (World.block_lt_of_cell? w _ hv144_0)).trans hv144_0) | exact hx144_0), (by first | exact ((HB.out.cell (World.block_lt_of_cell? w _ hw144_1)).trans hw144_1) | exact ((HB.out.cell (World.block_lt_of_cell? w _ hv144_1)).trans hv144_1) | exact hx144_1), (by first | exact ((HB.out.cell (World.block_lt_of_cell? w _ hw144_2)).trans hw144_2) | exact ((HB.out.cell (World.block_lt_of_cell? w _ hv144_2)).trans hv144_2) | exact hx144_2), (by first | exact ((HB.out.cell (World.block_lt_of_cell? w _ hw144_3)).trans hw144_3) | exact ((HB.out.cell (World.block_lt_of_cell? w _ hv144_3)).trans hv144_3) | exact hx144_3), (by first | exact ((HB.out.cell (World.block_lt_of_cell? w _ hw146_0)).trans hw146_0) | exact ((HB.out.cell (World.block_lt_of_cell? w _ hv146_0)).trans hv146_0) | exact hx146_0), (by first | exact ((HB.out.cell (World.block_lt_of_cell? w _ hw146_1)).trans hw146_1) | exact ((HB.out.cell (World.block_lt_of_cell? w _ hv146_1)).trans hv146_1) | exact hx146_1), (by first | exact ((HB.out.cell (World.block_lt_of_cell? w _ hw146_2)).trans hw146_2) | exact ((HB.out.cell (World.block_lt_of_cell? w _ hv146_2)).trans hv146_2) | exact hx146_2), (by first | exact ((HB.out.cell (World.block_lt_of_cell? w _ hw146_3)).trans hw146_3) | exact ((HB.out.cell (World.block_lt_of_cell? w _ hv146_3)).trans hv146_3) | exact hx146_3), (by first | exact ((HB.out.cell (World.block_lt_of_cell? w _ hw148_0)).trans hw148_0) | exact ((HB.out.cell (World.block_lt_of_cell? w _ hv148_0)).trans hv148_0) | exact hx148_0), (by first | exact ((HB.out.cell (World.block_lt_of_cell? w _ hw148_1)).trans hw148_1) | exact ((HB.out.cell (World.block_lt_of_cell? w _ hv148_1)).trans hv148_1) | exact hx148_1), (by first | exact ((HB.out.cell (World.block_lt_of_cell? w _ hw148_2)).trans hw148_2) | exact ((HB.out.cell (World.block_lt_of_cell? w _ hv148_2)).trans hv148_2) | exact hx148_2), (by first | exact ((HB.out.cell (World.block_lt_of_cell? w _ hw148_3)).trans hw148_3) | exact ((HB.out.cell (World.block_lt_of_cell? w _ hv148_3)).trans hv148_3) | exact hx148_3), (by first | exact ((HB.out.cell (World.block_lt_of_cell? w _ hw149_0)).trans hw149_0) | exact ((HB.out.cell (World.block_lt_of_cell? w _ hv149_0)).trans hv149_0) | exact hx149_0), (by first | exact ((HB.out.cell (World.block_lt_of_cell? w _ hw149_1)).trans hw149_1) | exact ((HB.out.cell (World.block_lt_of_cell? w _ hv149_1)).trans hv149_1) | exact hx149_1), (by first | exact ((HB.out.cell (World.block_lt_of_cell? w _ hw149_2)).trans hw149_2) | exact ((HB.out.cell (World.block_lt_of_cell? w _ hv149_2)).trans hv149_2) | exact hx149_2), (by first | exact ((HB.out.cell (World.block_lt_of_cell? w _ hw149_3)).trans hw149_3) | exact ((HB.out.cell (World.block_lt_of_cell? w _ hv149_3)).trans hv149_3) | exact hx149_3)⟩ (fun hHeld => ?_)
                    clear hK K
                    refine norm_ (a' := ?_) ?_ ?_
                    rotate_left
                    · show Act.put _ (some 39) _ = _
                      simp only [Act.put, List.setIfInBounds_toArray, List.set_cons_zero, List.set_cons_succ, i64_w, i32_w]
                      rfl
                    refine pure_ (i := 22) (N := some 40) (v := ?_) (a' := ?_) #[true, true, true, true, true, true, true, true, true, true, true, true, true, true, true, true, true, true, true, true, true, true, true, false, false, false, false, false, false, false, false, false, false, false, false, false, false, false, false] rfl rfl (any_of HT_.out (by kernel_rfl)) (fun _ _ _ h => h) (Or.inl ⟨by rfl, ?_⟩) ?_ ?_
                    rotate_left
                    · intro w'
                      go_simp
                      with_reducible rfl
                    rotate_left
                    · simp only [Act.put, List.setIfInBounds_toArray, List.set_cons_zero, List.set_cons_succ, i64_w, i32_w]
                      rfl
                    refine pure_ (i := 23) (N := some 41) (v := ?_) (a' := ?_) #[true, true, true, true, true, true, true, true, true, true, true, true, true, true, true, true, true, true, true, true, true, true, true, true, false, false, false, false, false, false, false, false, false, false, false, false, false, false, false] rfl rfl (any_of HT_.out (by kernel_rfl)) (fun _ _ _ h => h) (Or.inl ⟨by rfl, ?_⟩) ?_ ?_
                    rotate_left
                    · intro w'
                      go_simp
                      with_reducible rfl
                    rotate_left
                    · simp only [Act.put, List.setIfInBounds_toArray, List.set_cons_zero, List.set_cons_succ, i64_w, i32_w]
                      rfl
                    refine pure_ (i := 24) (N := some 42) (v := ?_) (a' := ?_) #[true, true, true, true, true, true, true, true, true, true, true, true, true, true, true, true, true, true, true, true, true, true, true, true, true, false, false, false, false, false, false, false, false, false, false, false, false, false, false] rfl rfl (any_of HT_.out (by kernel_rfl)) (fun _ _ _ h => h) (Or.inl ⟨by rfl, ?_⟩) ?_ ?_
                    rotate_left
                    · intro w'
                      go_simp
                      with_reducible rfl
                    rotate_left
                    · simp only [Act.put, List.setIfInBounds_toArray, List.set_cons_zero, List.set_cons_succ, i64_w, i32_w]
                      rfl
                    refine pure_ (i := 25) (N := some 43) (v := ?_) (a' := ?_) #[true, true, true, true, true, true, true, true, true, true, true, true, true, true, true, true, true, true, true, true, true, true, true, true, true, true, false, false, false, false, false, false, false, false, false, false, false, false, false] rfl rfl (any_of HT_.out (by kernel_rfl)) (fun _ _ _ h => h) (Or.inl ⟨by rfl, ?_⟩) ?_ ?_
                    rotate_left
                    · intro w'
                      go_simp
                      with_reducible rfl
                    rotate_left
                    · simp only [Act.put, List.setIfInBounds_toArray, List.set_cons_zero, List.set_cons_succ, i64_w, i32_w]
                      rfl
                    refine pure_ (i := 26) (N := some 44) (v := ?_) (a' := ?_) #[true, true, true, true, true, true, true, true, true, true, true, true, true, true, true, true, true, true, true, true, true, true, true, true, true, true, true, false, false, false, false, false, false, false, false, false, false, false, false] rfl rfl (any_of HT_.out (by kernel_rfl)) (fun _ _ _ h => h) (Or.inl ⟨by rfl, ?_⟩) ?_ ?_
                    rotate_left
                    · intro w'
                      go_simp
                      with_reducible rfl
                    rotate_left
                    · simp only [Act.put, List.setIfInBounds_toArray, List.set_cons_zero, List.set_cons_succ, i64_w, i32_w]
                      rfl
                    refine pure_ (i := 27) (N := some 45) (v := ?_) (a' := ?_) #[true, true, true, true, true, true, true, true, true, true, true, true, true, true, true, true, true, true, true, true, true, true, true, true, true, true, true, true, false, false, false, false, false, false, false, false, false, false, false] rfl rfl (any_of HT_.out (by kernel_rfl)) (fun _ _ _ h => h) (Or.inl ⟨by rfl, ?_⟩) ?_ ?_
                    rotate_left
                    · intro w'
                      go_simp
                      with_reducible rfl
                    rotate_left
                    · simp only [Act.put, List.setIfInBounds_toArray, List.set_cons_zero, List.set_cons_succ, i64_w, i32_w]
                      rfl
                    refine pure_ (i := 30) (N := some 48) (v := ?_) (a' := ?_) #[true, true, true, true, true, true, true, true, true, true, true, true, true, true, true, true, true, true, true, true, true, true, true, true, true, true, true, true, false, false, true, false, false, false, false, false, false, false, false] rfl rfl (any_of HT_.out (by kernel_rfl)) (fun _ _ _ h => h) (Or.inl ⟨by rfl, ?_⟩) ?_ ?_
                    rotate_left
                    · intro w'
                      go_simp
                      with_reducible rfl
                    rotate_left
                    · simp only [Act.put, List.setIfInBounds_toArray, List.set_cons_zero, List.set_cons_succ, i64_w, i32_w]
                      rfl
                    refine pure_ (i := 31) (N := some 49) (v := ?_) (a' := ?_) #[true, true, true, true, true, true, true, true, true, true, true, true, true, true, true, true, true, true, true, true, true, true, true, true, true, true, true, true, false, false, true, true, false, false, false, false, false, false, false] rfl rfl (any_of HT_.out (by kernel_rfl)) (fun _ _ _ h => h) (Or.inl ⟨by rfl, ?_⟩) ?_ ?_
                    rotate_left
                    · intro w'
                      go_simp
                      with_reducible rfl
                    rotate_left
                    · simp only [Act.put, List.setIfInBounds_toArray, List.set_cons_zero, List.set_cons_succ, i64_w, i32_w]
                      rfl
                    refine pure_ (i := 32) (N := some 50) (v := ?_) (a' := ?_) #[true, true, true, true, true, true, true, true, true, true, true, true, true, true, true, true, true, true, true, true, true, true, true, true, true, true, true, true, false, false, true, true, true, false, false, false, false, false, false] rfl rfl (any_of HT_.out (by kernel_rfl)) (fun _ _ _ h => h) (Or.inl ⟨by rfl, ?_⟩) ?_ ?_
                    rotate_left
                    · intro w'
                      go_simp
                      with_reducible rfl
                    rotate_left
                    · simp only [Act.put, List.setIfInBounds_toArray, List.set_cons_zero, List.set_cons_succ, i64_w, i32_w]
                      rfl
                    refine take_ (i := 28) (N := some 46) (v := ?_) (a' := ?_) #[true, true, true, true, true, true, true, true, true, true, true, true, true, true, true, true, true, true, true, true, true, true, true, true, true, true, true, true, true, false, true, true, true, false, false, false, false, false, false] rfl rfl (take_ofW HT_.out HW_.out (by kernel_rfl)) (fun _ _ _ h => h) (Or.inl ⟨by rfl, ?_⟩) hHeld ?_ ?_
                    rotate_left
                    · rintro w' ⟨s0, s1, s2, s3, s4, s5, s6, s7, s8, s9, s10, s11, s12, s13, s14, s15, s16, s17, s18, s19⟩
                      go_simp
                      with_reducible rfl
                    rotate_left
                    · simp only [Act.put, List.setIfInBounds_toArray, List.set_cons_zero, List.set_cons_succ, i64_w, i32_w]
                      rfl
                    refine pure_ (i := 29) (N := some 47) (v := ?_) (a' := ?_) #[true, true, true, true, true, true, true, true, true, true, true, true, true, true, true, true, true, true, true, true, true, true, true, true, true, true, true, true, true, true, true, true, true, false, false, false, false, false, false] rfl rfl (any_of HT_.out (by kernel_rfl)) (fun _ _ _ h => h) (Or.inl ⟨by rfl, ?_⟩) ?_ ?_
                    rotate_left
                    · intro w'
                      go_simp
                      with_reducible rfl
                    rotate_left
                    · simp only [Act.put, List.setIfInBounds_toArray, List.set_cons_zero, List.set_cons_succ, i64_w, i32_w]
                      rfl
                    refine take_ (i := 33) (N := some 51) (v := ?_) (a' := ?_) #[true, true, true, true, true, true, true, true, true, true, true, true, true, true, true, true, true, true, true, true, true, true, true, true, true, true, true, true, true, true, true, true, true, true, false, false, false, false, false] rfl rfl (take_ofW HT_.out HW_.out (by kernel_rfl)) (fun _ _ _ h => h) (Or.inl ⟨by rfl, ?_⟩) hHeld ?_ ?_
                    rotate_left
                    · rintro w' ⟨s0, s1, s2, s3, s4, s5, s6, s7, s8, s9, s10, s11, s12, s13, s14, s15, s16, s17, s18, s19⟩
                      go_simp
                      with_reducible rfl
                    rotate_left
                    · simp only [Act.put, List.setIfInBounds_toArray, List.set_cons_zero, List.set_cons_succ, i64_w, i32_w]
                      rfl
                    refine pure_ (i := 34) (N := some 52) (v := ?_) (a' := ?_) #[true, true, true, true, true, true, true, true, true, true, true, true, true, true, true, true, true, true, true, true, true, true, true, true, true, true, true, true, true, true, true, true, true, true, true, false, false, false, false] rfl rfl (any_of HT_.out (by kernel_rfl)) (fun _ _ _ h => h) (Or.inl ⟨by rfl, ?_⟩) ?_ ?_
                    rotate_left
                    · intro w'
                      go_simp
                      with_reducible rfl
                    rotate_left
                    · simp only [Act.put, List.setIfInBounds_toArray, List.set_cons_zero, List.set_cons_succ, i64_w, i32_w]
                      rfl
                    refine pure_ (i := 35) (N := some 53) (v := ?_) (a' := ?_) #[true, true, true, true, true, true, true, true, true, true, true, true, true, true, true, true, true, true, true, true, true, true, true, true, true, true, true, true, true, true, true, true, true, true, true, true, false, false, false] rfl rfl (any_of HT_.out (by kernel_rfl)) (fun _ _ _ h => h) (Or.inl ⟨by rfl, ?_⟩) ?_ ?_
                    rotate_left
                    · intro w'
                      go_simp
                      with_reducible rfl
                    rotate_left
                    · simp only [Act.put, List.setIfInBounds_toArray, List.set_cons_zero, List.set_cons_succ, i64_w, i32_w]
                      rfl
                    refine one_ (i := 36) (N := some 54) #[true, true, true, true, true, true, true, true, true, true, true, true, true, true, true, true, true, true, true, true, true, true, true, true, true, true, true, true, true, true, true, true, true, true, true, true, true, false, false] rfl rfl (one_of HT_.out (by kernel_rfl)) (by decide) (fun K hK => ?_)
                    refine goes_ Try.func71 (by kernel_rfl) rfl #[.int .i64 (wrap64 ((rd_T112 l0 x3_1).f2)), .int .i64 0, .int .i64 (wrap64 ((((rd_T112 l0 x3_1).f3).length : Int) - 1))] (by rfl) rfl rfl (by (try simp only [List.map_toArray, List.map_cons, List.map_nil]); first | done | rfl | (simp only [List.length_drop, List.length_take]; rfl)) ?_
                    with_reducible refine (spec_l00In.calls (wrap64 ((rd_T112 l0 x3_1).f2)) 0 (wrap64 ((((rd_T112 l0 x3_1).f3).length : Int) - 1)) true _ A12.out).mono ?_
                    rintro e w' ⟨rfl, ⟨nd, rfl⟩⟩
                    refine ⟨_, rfl, ?_⟩
                    refine hK.out _ _ ⟨(by first | exact ((HB.out.cell (World.block_lt_of_cell? w _ hw142_0)).trans hw142_0) | exact ((HB.out.cell (World.block_lt_of_cell? w _ hv142_0)).trans hv142_0) | exact hx142_0), (by first | exact ((HB.out.cell (World.block_lt_of_cell? w _ hw142_1)).trans hw142_1) | exact ((HB.out.cell (World.block_lt_of_cell? w _ hv142_1)).trans hv142_1) | exact hx142_1), (by first | exact ((HB.out.cell (World.block_lt_of_cell? w _ hw142_2)).trans hw142_2) | exact ((HB.out.cell (World.block_lt_of_cell? w _ hv142_2)).trans hv142_2) | exact hx142_2), (by first | exact ((HB.out.cell (World.block_lt_of_cell? w _ hw142_3)).trans hw142_3) | exact ((HB.out.cell (World.block_lt_of_cell? w _ hv142_3)).trans hv142_3) | exact hx142_3), (by first | exact ((HB.out.cell (World.block_lt_of_cell? w _ hw144_0)).trans hw144_0) | exact ((HB.out.cell (World.block_lt_of_cell? w _ hv144_0)).trans hv144_0) | exact hx144_0), (by first | exact ((HB.out.cell (World.block_lt_of_cell? w _ hw144_1)).trans hw144_1) | exact ((HB.out.cell (World.block_lt_of_cell? w _ hv144_1)).trans hv144_1) | exact hx144_1), (by first | exact ((HB.out.cell (World.block_lt_of_cell? w _ hw144_2)).trans hw144_2) | exact ((HB.out.cell (World.block_lt_of_cell? w _ hv144_2)).trans hv144_2) | exact hx144_2), (by first | exact ((HB.out.cell (World.block_lt_of_cell? w _ hw144_3)).trans hw144_3) | exact ((HB.out.cell (World.block_lt_of_cell? w _ hv144_3)).trans hv144_3) | exact hx144_3), (by first | exact ((HB.out.cell (World.block_lt_of_cell? w _ hw146_0)).trans hw146_0) | exact ((HB.out.cell (World.block_lt_of_cell? w _ hv146_0)).trans hv146_0) | exact hx146_0), (by first | exact ((HB.out.cell (World.block_lt_of_cell? w _ hw146_1)).trans hw146_1) | exact ((HB.out.cell (World.block_lt_of_cell? w _ hv146_1)).trans hv146_1) | exact hx146_1), (by first | exact ((HB.out.cell (World.block_lt_of_cell? w _ hw146_2)).trans hw146_2) | exact ((HB.out.cell (World.block_lt_of_cell? w _ hv146_2)).trans hv146_2) | exact hx146_2), (by first | exact ((HB.out.cell (World.block_lt_of_cell? w _ hw146_3)).trans hw146_3) | exact ((HB.out.cell (World.block_lt_of_cell? w _ hv146_3)).trans hv146_3) | exact hx146_3), (by first | exact ((HB.out.cell (World.block_lt_of_cell? w _ hw148_0)).trans hw148_0) | exact ((HB.out.cell (World.block_lt_of_cell? w _ hv148_0)).trans hv148_0) | exact hx148_0), (by first | exact ((HB.out.cell (World.block_lt_of_cell? w _ hw148_1)).trans hw148_1) | exact ((HB.out.cell (World.block_lt_of_cell? w _ hv148_1)).trans hv148_1) | exact hx148_1), (by first | exact ((HB.out.cell (World.block_lt_of_cell? w _ hw148_2)).trans hw148_2) | exact ((HB.out.cell (World.block_lt_of_cell? w _ hv148_2)).trans hv148_2) | exact hx148_2), (by first | exact ((HB.out.cell (World.block_lt_of_cell? w _ hw148_3)).trans hw148_3) | exact ((HB.out.cell (World.block_lt_of_cell? w _ hv148_3)).trans hv148_3) | exact hx148_3), (by first | exact ((HB.out.cell (World.block_lt_of_cell? w _ hw149_0)).trans hw149_0) | exact ((HB.out.cell (World.block_lt_of_cell? w _ hv149_0)).trans hv149_0) | exact hx149_0), (by first | exact ((HB.out.cell (World.block_lt_of_cell? w _ hw149_1)).trans hw149_1) | exact ((HB.out.cell (World.block_lt_of_cell? w _ hv149_1)).trans hv149_1) | exact hx149_1), (by first | exact ((HB.out.cell (World.block_lt_of_cell? w _ hw149_2)).trans hw149_2) | exact ((HB.out.cell (World.block_lt_of_cell? w _ hv149_2)).trans hv149_2) | exact hx149_2), (by first | exact ((HB.out.cell (World.block_lt_of_cell? w _ hw149_3)).trans hw149_3) | exact ((HB.out.cell (World.block_lt_of_cell? w _ hv149_3)).trans hv149_3) | exact hx149_3)⟩ (fun hHeld => ?_)
                    clear hK K
                    refine norm_ (a' := ?_) ?_ ?_
                    rotate_left
                    · show Act.put _ (some 54) _ = _
                      simp only [Act.put, List.setIfInBounds_toArray, List.set_cons_zero, List.set_cons_succ, i64_w, i32_w]
                      rfl
                    refine pure_ (i := 37) (N := some 55) (v := ?_) (a' := ?_) #[true, true, true, true, true, true, true, true, true, true, true, true, true, true, true, true, true, true, true, true, true, true, true, true, true, true, true, true, true, true, true, true, true, true, true, true, true, true, false] rfl rfl (any_of HT_.out (by kernel_rfl)) (fun _ _ _ h => h) (Or.inl ⟨by rfl, ?_⟩) ?_ ?_
                    rotate_left
                    · intro w'
                      go_simp
                      with_reducible rfl
                    rotate_left
                    · simp only [Act.put, List.setIfInBounds_toArray, List.set_cons_zero, List.set_cons_succ, i64_w, i32_w]
                      rfl
                    refine pure_ (i := 38) (N := some 56) (v := ?_) (a' := ?_) #[true, true, true, true, true, true, true, true, true, true, true, true, true, true, true, true, true, true, true, true, true, true, true, true, true, true, true, true, true, true, true, true, true, true, true, true, true, true, true] rfl rfl (any_of HT_.out (by kernel_rfl)) (fun _ _ _ h => h) (Or.inl ⟨by rfl, ?_⟩) ?_ ?_
                    rotate_left
                    · intro w'
                      go_simp
                      with_reducible rfl
                    rotate_left
                    · simp only [Act.put, List.setIfInBounds_toArray, List.set_cons_zero, List.set_cons_succ, i64_w, i32_w]
                      rfl
                    refine done_ (done_of HT_.out (by kernel_rfl)) ?_
                    try go_wp2
                    go_roundg k1
                    case measure => have := HK1.out; omega
                    case rel => exact ⟨(wrap64 (x3_1 + 1)), (by first | rfl | (simp; done) | (simp [*]; done)), H', ⟨by have := HK1.out; omega⟩, ⟨by repeat (first | (with_reducible first | exact HB.out | apply below_alloc | apply pw_below_drewN | apply below_drew1) | exact HB.out)⟩⟩
                  · replace c13 := Bool.eq_false_iff.mpr c13
                    subst c13
                    have H1 : (some false) = some r := by rw [if_neg (show ¬ (false = true) by decide)] at H; exact H
                    clear H
                    have H := H1
                    clear H1
                    obtain rfl := Option.some.inj H
                    have p141 : 0 ≤ (x3_1 : Int) := of_decide_eq_true (by first | (with_reducible assumption) | assumption)
                    have q141 : x3_1 < (l0.length : Int) := of_decide_eq_true (by first | (with_reducible assumption) | assumption)
                    obtain ⟨ad141, A141_3, c141_3, e141, hx141_0, hx141_1, hx141_2, hx141_3, hl141_3, hi141_3⟩ := at_T112 HR0.out x3_1 p141 q141
                    cases e141
                    replace hx141_0 := (HB.out.cell (World.block_lt_of_cell? w _ hx141_0)).trans hx141_0
                    replace hx141_1 := (HB.out.cell (World.block_lt_of_cell? w _ hx141_1)).trans hx141_1
                    replace hx141_2 := (HB.out.cell (World.block_lt_of_cell? w _ hx141_2)).trans hx141_2
                    replace hx141_3 := (HB.out.cell (World.block_lt_of_cell? w _ hx141_3)).trans hx141_3
                    have HR141_3 := Aside0.mk hi141_3
                    have HC141_3 := Aside0.mk hl141_3
                    clear hi141_3 hl141_3
                    replace p141 := eq_true p141
                    replace q141 := eq_true q141
                    try go_wp2
                    have n0_ := Aside0.mk (below_drew1 HB.out)
                    clear HB
                    have HB := n0_
                    clear n0_
                    have p142 : 0 ≤ (x3_1 : Int) := of_decide_eq_true (by first | (with_reducible assumption) | assumption)
                    have q142 : x3_1 < (l0.length : Int) := of_decide_eq_true (by first | (with_reducible assumption) | assumption)
                    obtain ⟨ad142, A142_3, c142_3, e142, hx142_0, hx142_1, hx142_2, hx142_3, hl142_3, hi142_3⟩ := at_T112 HR0.out x3_1 p142 q142
                    have hw142_3 := hx142_3
                    have hw142_2 := hx142_2
                    have hw142_1 := hx142_1
                    have hw142_0 := hx142_0
                    obtain rfl : ad141 = ad142 := (by injection e142)
                    replace hx142_0 := (HB.out.cell (World.block_lt_of_cell? w _ hx142_0)).trans hx142_0
                    replace hx142_1 := (HB.out.cell (World.block_lt_of_cell? w _ hx142_1)).trans hx142_1
                    replace hx142_2 := (HB.out.cell (World.block_lt_of_cell? w _ hx142_2)).trans hx142_2
                    replace hx142_3 := (HB.out.cell (World.block_lt_of_cell? w _ hx142_3)).trans hx142_3
                    have HR142_3 := Aside0.mk hi142_3
                    have HC142_3 := Aside0.mk hl142_3
                    clear hi142_3 hl142_3
                    replace p142 := eq_true p142
                    replace q142 := eq_true q142
                    have p144 : 0 ≤ (x3_1 : Int) := of_decide_eq_true (by first | (with_reducible assumption) | assumption)
                    have q144 : x3_1 < (l0.length : Int) := of_decide_eq_true (by first | (with_reducible assumption) | assumption)
                    obtain ⟨ad144, A144_3, c144_3, e144, hx144_0, hx144_1, hx144_2, hx144_3, hl144_3, hi144_3⟩ := at_T112 HR0.out x3_1 p144 q144
                    have hw144_3 := hx144_3
                    have hw144_2 := hx144_2
                    have hw144_1 := hx144_1
                    have hw144_0 := hx144_0
                    obtain rfl : ad141 = ad144 := (by injection e144)
                    replace hx144_0 := (HB.out.cell (World.block_lt_of_cell? w _ hx144_0)).trans hx144_0
                    replace hx144_1 := (HB.out.cell (World.block_lt_of_cell? w _ hx144_1)).trans hx144_1
                    replace hx144_2 := (HB.out.cell (World.block_lt_of_cell? w _ hx144_2)).trans hx144_2
                    replace hx144_3 := (HB.out.cell (World.block_lt_of_cell? w _ hx144_3)).trans hx144_3
                    have HR144_3 := Aside0.mk hi144_3
                    have HC144_3 := Aside0.mk hl144_3
                    clear hi144_3 hl144_3
                    replace p144 := eq_true p144
                    replace q144 := eq_true q144
                    have ea_ := Option.some.inj (hx142_3.symm.trans hx144_3)
                    injection ea_ with ea_ en_ ec_
                    subst ea_
                    subst ec_
                    clear en_
                    have p146 : 0 ≤ (x3_1 : Int) := of_decide_eq_true (by first | (with_reducible assumption) | assumption)
                    have q146 : x3_1 < (l0.length : Int) := of_decide_eq_true (by first | (with_reducible assumption) | assumption)
                    obtain ⟨ad146, A146_3, c146_3, e146, hx146_0, hx146_1, hx146_2, hx146_3, hl146_3, hi146_3⟩ := at_T112 HR0.out x3_1 p146 q146
                    have hw146_3 := hx146_3
                    have hw146_2 := hx146_2
                    have hw146_1 := hx146_1
                    have hw146_0 := hx146_0
                    obtain rfl : ad141 = ad146 := (by injection e146)
                    replace hx146_0 := (HB.out.cell (World.block_lt_of_cell? w _ hx146_0)).trans hx146_0
                    replace hx146_1 := (HB.out.cell (World.block_lt_of_cell? w _ hx146_1)).trans hx146_1
                    replace hx146_2 := (HB.out.cell (World.block_lt_of_cell? w _ hx146_2)).trans hx146_2
                    replace hx146_3 := (HB.out.cell (World.block_lt_of_cell? w _ hx146_3)).trans hx146_3
                    have HR146_3 := Aside0.mk hi146_3
                    have HC146_3 := Aside0.mk hl146_3
                    clear hi146_3 hl146_3
                    replace p146 := eq_true p146
                    replace q146 := eq_true q146
                    have ea_ := Option.some.inj (hx142_3.symm.trans hx146_3)
                    injection ea_ with ea_ en_ ec_
                    subst ea_
                    subst ec_
                    clear en_
                    have p148 : 0 ≤ (x3_1 : Int) := of_decide_eq_true (by first | (with_reducible assumption) | assumption)
                    have q148 : x3_1 < (l0.length : Int) := of_decide_eq_true (by first | (with_reducible assumption) | assumption)
                    obtain ⟨ad148, A148_3, c148_3, e148, hx148_0, hx148_1, hx148_2, hx148_3, hl148_3, hi148_3⟩ := at_T112 HR0.out x3_1 p148 q148
                    have hw148_3 := hx148_3
                    have hw148_2 := hx148_2
                    have hw148_1 := hx148_1
                    have hw148_0 := hx148_0
                    obtain rfl : ad141 = ad148 := (by injection e148)
                    replace hx148_0 := (HB.out.cell (World.block_lt_of_cell? w _ hx148_0)).trans hx148_0
                    replace hx148_1 := (HB.out.cell (World.block_lt_of_cell? w _ hx148_1)).trans hx148_1
                    replace hx148_2 := (HB.out.cell (World.block_lt_of_cell? w _ hx148_2)).trans hx148_2
                    replace hx148_3 := (HB.out.cell (World.block_lt_of_cell? w _ hx148_3)).trans hx148_3
                    have HR148_3 := Aside0.mk hi148_3
                    have HC148_3 := Aside0.mk hl148_3
                    clear hi148_3 hl148_3
                    replace p148 := eq_true p148
                    replace q148 := eq_true q148
                    have ea_ := Option.some.inj (hx142_3.symm.trans hx148_3)
                    injection ea_ with ea_ en_ ec_
                    subst ea_
                    subst ec_
                    clear en_
                    have p149 : 0 ≤ (x3_1 : Int) := of_decide_eq_true (by first | (with_reducible assumption) | assumption)
                    have q149 : x3_1 < (l0.length : Int) := of_decide_eq_true (by first | (with_reducible assumption) | assumption)
                    obtain ⟨ad149, A149_3, c149_3, e149, hx149_0, hx149_1, hx149_2, hx149_3, hl149_3, hi149_3⟩ := at_T112 HR0.out x3_1 p149 q149
                    have hw149_3 := hx149_3
                    have hw149_2 := hx149_2
                    have hw149_1 := hx149_1
                    have hw149_0 := hx149_0
                    obtain rfl : ad141 = ad149 := (by injection e149)
                    replace hx149_0 := (HB.out.cell (World.block_lt_of_cell? w _ hx149_0)).trans hx149_0
                    replace hx149_1 := (HB.out.cell (World.block_lt_of_cell? w _ hx149_1)).trans hx149_1
                    replace hx149_2 := (HB.out.cell (World.block_lt_of_cell? w _ hx149_2)).trans hx149_2
                    replace hx149_3 := (HB.out.cell (World.block_lt_of_cell? w _ hx149_3)).trans hx149_3
                    have HR149_3 := Aside0.mk hi149_3
                    have HC149_3 := Aside0.mk hl149_3
                    clear hi149_3 hl149_3
                    replace p149 := eq_true p149
                    replace q149 := eq_true q149
                    have ea_ := Option.some.inj (hx142_3.symm.trans hx149_3)
                    injection ea_ with ea_ en_ ec_
                    subst ea_
                    subst ec_
                    clear en_
                    refine start_ (n := 39) (S := fun w' => w'.cell? (ad141.add ((x3_1).toNat * 4)) = some (.int .i16 ((rd_T112 l0 x3_1).f0)) ∧ w'.cell? ⟨(ad141.add ((x3_1).toNat * 4)).block, (ad141.add ((x3_1).toNat * 4)).off + 1, none⟩ = some (.int .i16 ((rd_T112 l0 x3_1).f1)) ∧ w'.cell? ⟨(ad141.add ((x3_1).toNat * 4)).block, (ad141.add ((x3_1).toNat * 4)).off + 2, none⟩ = some (.int .i16 ((rd_T112 l0 x3_1).f2)) ∧ w'.cell? ⟨(ad141.add ((x3_1).toNat * 4)).block, (ad141.add ((x3_1).toNat * 4)).off + 3, none⟩ = some (.slice A142_3 ((rd_T112 l0 x3_1).f3).length c142_3) ∧ w'.cell? (ad141.add ((x3_1).toNat * 4)) = some (.int .i16 ((rd_T112 l0 x3_1).f0)) ∧ w'.cell? ⟨(ad141.add ((x3_1).toNat * 4)).block, (ad141.add ((x3_1).toNat * 4)).off + 1, none⟩ = some (.int .i16 ((rd_T112 l0 x3_1).f1)) ∧ w'.cell? ⟨(ad141.add ((x3_1).toNat * 4)).block, (ad141.add ((x3_1).toNat * 4)).off + 2, none⟩ = some (.int .i16 ((rd_T112 l0 x3_1).f2)) ∧ w'.cell? ⟨(ad141.add ((x3_1).toNat * 4)).block, (ad141.add ((x3_1).toNat * 4)).off + 3, none⟩ = some (.slice A142_3 ((rd_T112 l0 x3_1).f3).length c142_3) ∧ w'.cell? (ad141.add ((x3_1).toNat * 4)) = some (.int .i16 ((rd_T112 l0 x3_1).f0)) ∧ w'.cell? ⟨(ad141.add ((x3_1).toNat * 4)).block, (ad141.add ((x3_1).toNat * 4)).off + 1, none⟩ = some (.int .i16 ((rd_T112 l0 x3_1).f1)) ∧ w'.cell? ⟨(ad141.add ((x3_1).toNat * 4)).block, (ad141.add ((x3_1).toNat * 4)).off + 2, none⟩ = some (.int .i16 ((rd_T112 l0 x3_1).f2)) ∧ w'.cell? ⟨(ad141.add ((x3_1).toNat * 4)).block, (ad141.add ((x3_1).toNat * 4)).off + 3, none⟩ = some (.slice A142_3 ((rd_T112 l0 x3_1).f3).length c142_3) ∧ w'.cell? (ad141.add ((x3_1).toNat * 4)) = some (.int .i16 ((rd_T112 l0 x3_1).f0)) ∧ w'.cell? ⟨(ad141.add ((x3_1).toNat * 4)).block, (ad141.add ((x3_1).toNat * 4)).off + 1, none⟩ = some (.int .i16 ((rd_T112 l0 x3_1).f1)) ∧ w'.cell? ⟨(ad141.add ((x3_1).toNat * 4)).block, (ad141.add ((x3_1).toNat * 4)).off + 2, none⟩ = some (.int .i16 ((rd_T112 l0 x3_1).f2)) ∧ w'.cell? ⟨(ad141.add ((x3_1).toNat * 4)).block, (ad141.add ((x3_1).toNat * 4)).off + 3, none⟩ = some (.slice A142_3 ((rd_T112 l0 x3_1).f3).length c142_3) ∧ w'.cell? (ad141.add ((x3_1).toNat * 4)) = some (.int .i16 ((rd_T112 l0 x3_1).f0)) ∧ w'.cell? ⟨(ad141.add ((x3_1).toNat * 4)).block, (ad141.add ((x3_1).toNat * 4)).off + 1, none⟩ = some (.int .i16 ((rd_T112 l0 x3_1).f1)) ∧ w'.cell? ⟨(ad141.add ((x3_1).toNat * 4)).block, (ad141.add ((x3_1).toNat * 4)).off + 2, none⟩ = some (.int .i16 ((rd_T112 l0 x3_1).f2)) ∧ w'.cell? ⟨(ad141.add ((x3_1).toNat * 4)).block, (ad141.add ((x3_1).toNat * 4)).off + 3, none⟩ = some (.slice A142_3 ((rd_T112 l0 x3_1).f3).length c142_3)) (ds := []) #[false, false, false, false, false, false, false, false, false, false, false, false, false, false, false, false, false, false, false, false, false, false, false, false, false, false, false, false, false, false, false, false, false, false, false, false, false, false, false] (by kernel_rfl) rfl rfl ⟨(by first | exact ((HB.out.cell (World.block_lt_of_cell? w _ hw142_0)).trans hw142_0) | exact ((HB.out.cell (World.block_lt_of_cell? w _ hv142_0)).trans hv142_0) | exact hx142_0), (by first | exact ((HB.out.cell (World.block_lt_of_cell? w _ hw142_1)).trans hw142_1) | exact ((HB.out.cell (World.block_lt_of_cell? w _ hv142_1)).trans hv142_1) | exact hx142_1), (by first | exact ((HB.out.cell (World.block_lt_of_cell? w _ hw142_2)).trans hw142_2) | exact ((HB.out.cell (World.block_lt_of_cell? w _ hv142_2)).trans hv142_2) | exact hx142_2), (by first | exact ((HB.out.cell (World.block_lt_of_cell? w _ hw142_3)).trans hw142_3) | exact ((HB.out.cell (World.block_lt_of_cell? w _ hv142_3)).trans hv142_3) | exact hx142_3), (by first | exact ((HB.out.cell (World.block_lt_of_cell? w _ hw144_0)).trans hw144_0) | exact ((HB.out.cell (World.block_lt_of_cell? w _ hv144_0)).trans hv144_0) | exact hx144_0), (by first | exact ((HB.out.cell (World.block_lt_of_cell? w _ hw144_1)).trans hw144_1) | exact ((HB.out.cell (World.block_lt_of_cell? w _ hv144_1)).trans hv144_1) | exact hx144_1), (by first | exact ((HB.out.cell (World.block_lt_of_cell? w _ hw144_2)).trans hw144_2) | exact ((HB.out.cell (World.block_lt_of_cell? w _ hv144_2)).trans hv144_2) | exact hx144_2), (by first | exact ((HB.out.cell (World.block_lt_of_cell? w _ hw144_3)).trans hw144_3) | exact ((HB.out.cell (World.block_lt_of_cell? w _ hv144_3)).trans hv144_3) | exact hx144_3), (by first | exact ((HB.out.cell (World.block_lt_of_cell? w _ hw146_0)).trans hw146_0) | exact ((HB.out.cell (World.block_lt_of_cell? w _ hv146_0)).trans hv146_0) | exact hx146_0), (by first | exact ((HB.out.cell (World.block_lt_of_cell? w _ hw146_1)).trans hw146_1) | exact ((HB.out.cell (World.block_lt_of_cell? w _ hv146_1)).trans hv146_1) | exact hx146_1), (by first | exact ((HB.out.cell (World.block_lt_of_cell? w _ hw146_2)).trans hw146_2) | exact ((HB.out.cell (World.block_lt_of_cell? w _ hv146_2)).trans hv146_2) | exact hx146_2), (by first | exact ((HB.out.cell (World.block_lt_of_cell? w _ hw146_3)).trans hw146_3) | exact ((HB.out.cell (World.block_lt_of_cell? w _ hv146_3)).trans hv146_3) | exact hx146_3), (by first | exact ((HB.out.cell (World.block_lt_of_cell? w _ hw148_0)).trans hw148_0) | exact ((HB.out.cell (World.block_lt_of_cell? w _ hv148_0)).trans hv148_0) | exact hx148_0), (by first | exact ((HB.out.cell (World.block_lt_of_cell? w _ hw148_1)).trans hw148_1) | exact ((HB.out.cell (World.block_lt_of_cell? w _ hv148_1)).trans hv148_1) | exact hx148_1), (by first | exact ((HB.out.cell (World.block_lt_of_cell? w _ hw148_2)).trans hw148_2) | exact ((HB.out.cell (World.block_lt_of_cell? w _ hv148_2)).trans hv148_2) | exact hx148_2), (by first | exact ((HB.out.cell (World.block_lt_of_cell? w _ hw148_3)).trans hw148_3) | exact ((HB.out.cell (World.block_lt_of_cell? w _ hv148_3)).trans hv148_3) | exact hx148_3), (by first | exact ((HB.out.cell (World.block_lt_of_cell? w _ hw149_0)).trans hw149_0) | exact ((HB.out.cell (World.block_lt_of_cell? w _ hv149_0)).trans hv149_0) | exact hx149_0), (by first | exact ((HB.out.cell (World.block_lt_of_cell? w _ hw149_1)).trans hw149_1) | exact ((HB.out.cell (World.block_lt_of_cell? w _ hv149_1)).trans hv149_1) | exact hx149_1), (by first | exact ((HB.out.cell (World.block_lt_of_cell? w _ hw149_2)).trans hw149_2) | exact ((HB.out.cell (World.block_lt_of_cell? w _ hv149_2)).trans hv149_2) | exact hx149_2), (by first | exact ((HB.out.cell (World.block_lt_of_cell? w _ hw149_3)).trans hw149_3) | exact ((HB.out.cell (World.block_lt_of_cell? w _ hv149_3)).trans hv149_3) | exact hx149_3)⟩ (fun hHeld => ?_); refine with_tabW spec_l04Ok.tab7 spec_l04Ok.bits7 (fun HT_ HW_ => ?_)
                    generalize wr.drew = w15 at HB HR142_3 HR144_3 HR146_3 HR148_3 HR149_3 hx142_0 hx142_1 hx142_2 hx142_3 hx144_0 hx144_1 hx144_2 hx144_3 hx146_0 hx146_1 hx146_2 hx146_3 hx148_0 hx148_1 hx148_2 hx148_3 hx149_0 hx149_1 hx149_2 hx149_3 hHeld ⊢
                    refine pure_ (i := 0) (N := some 18) (v := ?_) (a' := ?_) #[true, false, false, false, false, false, false, false, false, false, false, false, false, false, false, false, false, false, false, false, false, false, false, false, false, false, false, false, false, false, false, false, false, false, false, false, false, false, false] rfl rfl (any_of HT_.out (by kernel_rfl)) (fun _ _ _ h => h) (Or.inl ⟨by rfl, ?_⟩) ?_ ?_
                    rotate_left
                    · intro w'
                      go_simp
                      with_reducible rfl
                    rotate_left
                    · simp only [Act.put, List.setIfInBounds_toArray, List.set_cons_zero, List.set_cons_succ, i64_w, i32_w]
                      rfl
                    refine pure_ (i := 1) (N := some 19) (v := ?_) (a' := ?_) #[true, true, false, false, false, false, false, false, false, false, false, false, false, false, false, false, false, false, false, false, false, false, false, false, false, false, false, false, false, false, false, false, false, false, false, false, false, false, false] rfl rfl (any_of HT_.out (by kernel_rfl)) (fun _ _ _ h => h) (Or.inl ⟨by rfl, ?_⟩) ?_ ?_
                    rotate_left
                    · intro w'
                      go_simp
                      with_reducible rfl
                    rotate_left
                    · simp only [Act.put, List.setIfInBounds_toArray, List.set_cons_zero, List.set_cons_succ, i64_w, i32_w]
                      rfl
                    refine pure_ (i := 2) (N := some 20) (v := ?_) (a' := ?_) #[true, true, true, false, false, false, false, false, false, false, false, false, false, false, false, false, false, false, false, false, false, false, false, false, false, false, false, false, false, false, false, false, false, false, false, false, false, false, false] rfl rfl (any_of HT_.out (by kernel_rfl)) (fun _ _ _ h => h) (Or.inl ⟨by rfl, ?_⟩) ?_ ?_
                    rotate_left
                    · intro w'
                      go_simp
                      with_reducible rfl
                    rotate_left
                    · simp only [Act.put, List.setIfInBounds_toArray, List.set_cons_zero, List.set_cons_succ, i64_w, i32_w]
                      rfl
                    refine take_ (i := 3) (N := some 21) (v := ?_) (a' := ?_) #[true, true, true, true, false, false, false, false, false, false, false, false, false, false, false, false, false, false, false, false, false, false, false, false, false, false, false, false, false, false, false, false, false, false, false, false, false, false, false] rfl rfl (take_ofW HT_.out HW_.out (by kernel_rfl)) (fun _ _ _ h => h) (Or.inl ⟨by rfl, ?_⟩) hHeld ?_ ?_
                    rotate_left
                    · rintro w' ⟨s0, s1, s2, s3, s4, s5, s6, s7, s8, s9, s10, s11, s12, s13, s14, s15, s16, s17, s18, s19⟩
                      go_simp
                      with_reducible rfl
                    rotate_left
                    · simp only [Act.put, List.setIfInBounds_toArray, List.set_cons_zero, List.set_cons_succ, i64_w, i32_w]
                      rfl
                    refine pure_ (i := 4) (N := some 22) (v := ?_) (a' := ?_) #[true, true, true, true, true, false, false, false, false, false, false, false, false, false, false, false, false, false, false, false, false, false, false, false, false, false, false, false, false, false, false, false, false, false, false, false, false, false, false] rfl rfl (any_of HT_.out (by kernel_rfl)) (fun _ _ _ h => h) (Or.inl ⟨by rfl, ?_⟩) ?_ ?_
                    rotate_left
                    · intro w'
                      go_simp
                      with_reducible rfl
                    rotate_left
                    · simp only [Act.put, List.setIfInBounds_toArray, List.set_cons_zero, List.set_cons_succ, i64_w, i32_w]
                      rfl
                    refine one_ (i := 5) (N := some 23) #[true, true, true, true, true, true, false, false, false, false, false, false, false, false, false, false, false, false, false, false, false, false, false, false, false, false, false, false, false, false, false, false, false, false, false, false, false, false, false] rfl rfl (one_of HT_.out (by kernel_rfl)) (by decide) (fun K hK => ?_)
                    refine goes_ Try.func71 (by kernel_rfl) rfl #[.int .i64 (wrap64 ((rd_T112 l0 x3_1).f0)), .int .i64 1, .int .i64 60] (by rfl) rfl rfl (by (try simp only [List.map_toArray, List.map_cons, List.map_nil]); first | done | rfl | (simp only [List.length_drop, List.length_take]; rfl)) ?_
                    with_reducible refine (spec_l00In.calls (wrap64 ((rd_T112 l0 x3_1).f0)) 1 60 true _ A6.out).mono ?_
                    rintro e w' ⟨rfl, ⟨nd, rfl⟩⟩
                    refine ⟨_, rfl, ?_⟩
                    refine hK.out _ _ ⟨(by first | exact ((HB.out.cell (World.block_lt_of_cell? w _ hw142_0)).trans hw142_0) | exact ((HB.out.cell (World.block_lt_of_cell? w _ hv142_0)).trans hv142_0) | exact hx142_0), (by first | exact ((HB.out.cell (World.block_lt_of_cell? w _ hw142_1)).trans hw142_1) | exact ((HB.out.cell (World.block_lt_of_cell? w _ hv142_1)).trans hv142_1) | exact hx142_1), (by first | exact ((HB.out.cell (World.block_lt_of_cell? w _ hw142_2)).trans hw142_2) | exact ((HB.out.cell (World.block_lt_of_cell? w _ hv142_2)).trans hv142_2) | exact hx142_2), (by first | exact ((HB.out.cell (World.block_lt_of_cell? w _ hw142_3)).trans hw142_3) | exact ((HB.out.cell (World.block_lt_of_cell? w _ hv142_3)).trans hv142_3) | exact hx142_3), (by first | exact ((HB.out.cell (World.block_lt_of_cell? w _ hw144_0)).trans hw144_0) | exact ((HB.out.cell (World.block_lt_of_cell? w _ hv144_0)).trans hv144_0) | exact hx144_0), (by first | exact ((HB.out.cell (World.block_lt_of_cell? w _ hw144_1)).trans hw144_1) | exact ((HB.out.cell (World.block_lt_of_cell? w _ hv144_1)).trans hv144_1) | exact hx144_1), (by first | exact ((HB.out.cell (World.block_lt_of_cell? w _ hw144_2)).trans hw144_2) | exact ((HB.out.cell (World.block_lt_of_cell? w _ hv144_2)).trans hv144_2) | exact hx144_2), (by first | exact ((HB.out.cell (World.block_lt_of_cell? w _ hw144_3)).trans hw144_3) | exact ((HB.out.cell (World.block_lt_of_cell? w _ hv144_3)).trans hv144_3) | exact hx144_3), (by first | exact ((HB.out.cell (World.block_lt_of_cell? w _ hw146_0)).trans hw146_0) | exact ((HB.out.cell (World.block_lt_of_cell? w _ hv146_0)).trans hv146_0) | exact hx146_0), (by first | exact ((HB.out.cell (World.block_lt_of_cell? w _ hw146_1)).trans hw146_1) | exact ((HB.out.cell (World.block_lt_of_cell? w _ hv146_1)).trans hv146_1) | exact hx146_1), (by first | exact ((HB.out.cell (World.block_lt_of_cell? w _ hw146_2)).trans hw146_2) | exact ((HB.out.cell (World.block_lt_of_cell? w _ hv146_2)).trans hv146_2) | exact hx146_2), (by first | exact ((HB.out.cell (World.block_lt_of_cell? w _ hw146_3)).trans hw146_3) | exact ((HB.out.cell (World.block_lt_of_cell? w _ hv146_3)).trans hv146_3) | exact hx146_3), (by first | exact ((HB.out.cell (World.block_lt_of_cell? w _ hw148_0)).trans hw148_0) | exact ((HB.out.cell (World.block_lt_of_cell? w _ hv148_0)).trans hv148_0) | exact hx148_0), (by first | exact ((HB.out.cell (World.block_lt_of_cell? w _ hw148_1)).trans hw148_1) | exact ((HB.out.cell (World.block_lt_of_cell? w _ hv148_1)).trans hv148_1) | exact hx148_1), (by first | exact ((HB.out.cell (World.block_lt_of_cell? w _ hw148_2)).trans hw148_2) | exact ((HB.out.cell (World.block_lt_of_cell? w _ hv148_2)).trans hv148_2) | exact hx148_2), (by first | exact ((HB.out.cell (World.block_lt_of_cell? w _ hw148_3)).trans hw148_3) | exact ((HB.out.cell (World.block_lt_of_cell? w _ hv148_3)).trans hv148_3) | exact hx148_3), (by first | exact ((HB.out.cell (World.block_lt_of_cell? w _ hw149_0)).trans hw149_0) | exact ((HB.out.cell (World.block_lt_of_cell? w _ hv149_0)).trans hv149_0) | exact hx149_0), (by first | exact ((HB.out.cell (World.block_lt_of_cell? w _ hw149_1)).trans hw149_1) | exact ((HB.out.cell (World.block_lt_of_cell? w _ hv149_1)).trans hv149_1) | exact hx149_1), (by first | exact ((HB.out.cell (World.block_lt_of_cell? w _ hw149_2)).trans hw149_2) | exact ((HB.out.cell (World.block_lt_of_cell? w _ hv149_2)).trans hv149_2) | exact hx149_2), (by first | exact ((HB.out.cell (World.block_lt_of_cell? w _ hw149_3)).trans hw149_3) | exact ((HB.out.cell (World.block_lt_of_cell? w _ hv149_3)).trans hv149_3) | exact hx149_3)⟩ (fun hHeld => ?_)
                    clear hK K
                    refine norm_ (a' := ?_) ?_ ?_
                    rotate_left
                    · show Act.put _ (some 23) _ = _
                      simp only [Act.put, List.setIfInBounds_toArray, List.set_cons_zero, List.set_cons_succ, i64_w, i32_w]
                      rfl
                    refine pure_ (i := 6) (N := some 24) (v := ?_) (a' := ?_) #[true, true, true, true, true, true, true, false, false, false, false, false, false, false, false, false, false, false, false, false, false, false, false, false, false, false, false, false, false, false, false, false, false, false, false, false, false, false, false] rfl rfl (any_of HT_.out (by kernel_rfl)) (fun _ _ _ h => h) (Or.inl ⟨by rfl, ?_⟩) ?_ ?_
                    rotate_left
                    · intro w'
                      go_simp
                      with_reducible rfl
                    rotate_left
                    · simp only [Act.put, List.setIfInBounds_toArray, List.set_cons_zero, List.set_cons_succ, i64_w, i32_w]
                      rfl
                    refine pure_ (i := 7) (N := some 25) (v := ?_) (a' := ?_) #[true, true, true, true, true, true, true, true, false, false, false, false, false, false, false, false, false, false, false, false, false, false, false, false, false, false, false, false, false, false, false, false, false, false, false, false, false, false, false] rfl rfl (any_of HT_.out (by kernel_rfl)) (fun _ _ _ h => h) (Or.inl ⟨by rfl, ?_⟩) ?_ ?_
                    rotate_left
                    · intro w'
                      go_simp
                      with_reducible rfl
                    rotate_left
                    · simp only [Act.put, List.setIfInBounds_toArray, List.set_cons_zero, List.set_cons_succ, i64_w, i32_w]
                      rfl
                    refine pure_ (i := 8) (N := some 26) (v := ?_) (a' := ?_) #[true, true, true, true, true, true, true, true, true, false, false, false, false, false, false, false, false, false, false, false, false, false, false, false, false, false, false, false, false, false, false, false, false, false, false, false, false, false, false] rfl rfl (any_of HT_.out (by kernel_rfl)) (fun _ _ _ h => h) (Or.inl ⟨by rfl, ?_⟩) ?_ ?_
                    rotate_left
                    · intro w'
                      go_simp
                      with_reducible rfl
                    rotate_left
                    · simp only [Act.put, List.setIfInBounds_toArray, List.set_cons_zero, List.set_cons_succ, i64_w, i32_w]
                      rfl
                    refine pure_ (i := 9) (N := some 27) (v := ?_) (a' := ?_) #[true, true, true, true, true, true, true, true, true, true, false, false, false, false, false, false, false, false, false, false, false, false, false, false, false, false, false, false, false, false, false, false, false, false, false, false, false, false, false] rfl rfl (any_of HT_.out (by kernel_rfl)) (fun _ _ _ h => h) (Or.inl ⟨by rfl, ?_⟩) ?_ ?_
                    rotate_left
                    · intro w'
                      go_simp
                      with_reducible rfl
                    rotate_left
                    · simp only [Act.put, List.setIfInBounds_toArray, List.set_cons_zero, List.set_cons_succ, i64_w, i32_w]
                      rfl
                    refine pure_ (i := 10) (N := some 28) (v := ?_) (a' := ?_) #[true, true, true, true, true, true, true, true, true, true, true, false, false, false, false, false, false, false, false, false, false, false, false, false, false, false, false, false, false, false, false, false, false, false, false, false, false, false, false] rfl rfl (any_of HT_.out (by kernel_rfl)) (fun _ _ _ h => h) (Or.inl ⟨by rfl, ?_⟩) ?_ ?_
                    rotate_left
                    · intro w'
                      go_simp
                      with_reducible rfl
                    rotate_left
                    · simp only [Act.put, List.setIfInBounds_toArray, List.set_cons_zero, List.set_cons_succ, i64_w, i32_w]
                      rfl
                    refine take_ (i := 11) (N := some 29) (v := ?_) (a' := ?_) #[true, true, true, true, true, true, true, true, true, true, true, true, false, false, false, false, false, false, false, false, false, false, false, false, false, false, false, false, false, false, false, false, false, false, false, false, false, false, false] rfl rfl (take_ofW HT_.out HW_.out (by kernel_rfl)) (fun _ _ _ h => h) (Or.inl ⟨by rfl, ?_⟩) hHeld ?_ ?_
                    rotate_left
                    · rintro w' ⟨s0, s1, s2, s3, s4, s5, s6, s7, s8, s9, s10, s11, s12, s13, s14, s15, s16, s17, s18, s19⟩
                      go_simp
                      with_reducible rfl
                    rotate_left
                    · simp only [Act.put, List.setIfInBounds_toArray, List.set_cons_zero, List.set_cons_succ, i64_w, i32_w]
                      rfl
                    refine pure_ (i := 12) (N := some 30) (v := ?_) (a' := ?_) #[true, true, true, true, true, true, true, true, true, true, true, true, true, false, false, false, false, false, false, false, false, false, false, false, false, false, false, false, false, false, false, false, false, false, false, false, false, false, false] rfl rfl (any_of HT_.out (by kernel_rfl)) (fun _ _ _ h => h) (Or.inl ⟨by rfl, ?_⟩) ?_ ?_
                    rotate_left
                    · intro w'
                      go_simp
                      with_reducible rfl
                    rotate_left
                    · simp only [Act.put, List.setIfInBounds_toArray, List.set_cons_zero, List.set_cons_succ, i64_w, i32_w]
                      rfl
                    refine one_ (i := 13) (N := some 31) #[true, true, true, true, true, true, true, true, true, true, true, true, true, true, false, false, false, false, false, false, false, false, false, false, false, false, false, false, false, false, false, false, false, false, false, false, false, false, false] rfl rfl (one_of HT_.out (by kernel_rfl)) (by decide) (fun K hK => ?_)
                    refine goes_ Try.func71 (by kernel_rfl) rfl #[.int .i64 (wrap64 ((rd_T112 l0 x3_1).f1)), .int .i64 1, .int .i64 60] (by rfl) rfl rfl (by (try simp only [List.map_toArray, List.map_cons, List.map_nil]); first | done | rfl | (simp only [List.length_drop, List.length_take]; rfl)) ?_
                    with_reducible refine (spec_l00In.calls (wrap64 ((rd_T112 l0 x3_1).f1)) 1 60 true _ A8.out).mono ?_
                    rintro e w' ⟨rfl, ⟨nd, rfl⟩⟩
                    refine ⟨_, rfl, ?_⟩
                    refine hK.out _ _ ⟨(by first | exact ((HB.out.cell (World.block_lt_of_cell? w _ hw142_0)).trans hw142_0) | exact ((HB.out.cell (World.block_lt_of_cell? w _ hv142_0)).trans hv142_0) | exact hx142_0), (by first | exact ((HB.out.cell (World.block_lt_of_cell? w _ hw142_1)).trans hw142_1) | exact ((HB.out.cell (World.block_lt_of_cell? w _ hv142_1)).trans hv142_1) | exact hx142_1), (by first | exact ((HB.out.cell (World.block_lt_of_cell? w _ hw142_2)).trans hw142_2) | exact ((HB.out.cell (World.block_lt_of_cell? w _ hv142_2)).trans hv142_2) | exact hx142_2), (by first | exact ((HB.out.cell (World.block_lt_of_cell? w _ hw142_3)).trans hw142_3) | exact ((HB.out.cell (World.block_lt_of_cell? w _ hv142_3)).trans hv142_3) | exact hx142_3), (by first | exact ((HB.out.cell (World.block_lt_of_cell? w _ hw144_0)).trans hw144_0) | exact ((HB.out.cell (World.block_lt_of_cell? w _ hv144_0)).trans hv144_0) | exact hx144_0), (by first | exact ((HB.out.cell (World.block_lt_of_cell? w _ hw144_1)).trans hw144_1) | exact ((HB.out.cell (World.block_lt_of_cell? w _ hv144_1)).trans hv144_1) | exact hx144_1), (by first | exact ((HB.out.cell (World.block_lt_of_cell? w _ hw144_2)).trans hw144_2) | exact ((HB.out.cell (World.block_lt_of_cell? w _ hv144_2)).trans hv144_2) | exact hx144_2), (by first | exact ((HB.out.cell (World.block_lt_of_cell? w _ hw144_3)).trans hw144_3) | exact ((HB.out.cell (World.block_lt_of_cell? w _ hv144_3)).trans hv144_3) | exact hx144_3), (by first | exact ((HB.out.cell (World.block_lt_of_cell? w _ hw146_0)).trans hw146_0) | exact ((HB.out.cell (World.block_lt_of_cell? w _ hv146_0)).trans hv146_0) | exact hx146_0), (by first | exact ((HB.out.cell (World.block_lt_of_cell? w _ hw146_1)).trans hw146_1) | exact ((HB.out.cell (World.block_lt_of_cell? w _ hv146_1)).trans hv146_1) | exact hx146_1), (by first | exact ((HB.out.cell (World.block_lt_of_cell? w _ hw146_2)).trans hw146_2) | exact ((HB.out.cell (World.block_lt_of_cell? w _ hv146_2)).trans hv146_2) | exact hx146_2), (by first | exact ((HB.out.cell (World.block_lt_of_cell? w _ hw146_3)).trans hw146_3) | exact ((HB.out.cell (World.block_lt_of_cell? w _ hv146_3)).trans hv146_3) | exact hx146_3), (by first | exact ((HB.out.cell (World.block_lt_of_cell? w _ hw148_0)).trans hw148_0) | exact ((HB.out.cell (World.block_lt_of_cell? w _ hv148_0)).trans hv148_0) | exact hx148_0), (by first | exact ((HB.out.cell (World.block_lt_of_cell? w _ hw148_1)).trans hw148_1) | exact ((HB.out.cell (World.block_lt_of_cell? w _ hv148_1)).trans hv148_1) | exact hx148_1), (by first | exact ((HB.out.cell (World.block_lt_of_cell? w _ hw148_2)).trans hw148_2) | exact ((HB.out.cell (World.block_lt_of_cell? w _ hv148_2)).trans hv148_2) | exact hx148_2), (by first | exact ((HB.out.cell (World.block_lt_of_cell? w _ hw148_3)).trans hw148_3) | exact ((HB.out.cell (World.block_lt_of_cell? w _ hv148_3)).trans hv148_3) | exact hx148_3), (by first | exact ((HB.out.cell (World.block_lt_of_cell? w _ hw149_0)).trans hw149_0) | exact ((HB.out.cell (World.block_lt_of_cell? w _ hv149_0)).trans hv149_0) | exact hx149_0), (by first | exact ((HB.out.cell (World.block_lt_of_cell? w _ hw149_1)).trans hw149_1) | exact ((HB.out.cell (World.block_lt_of_cell? w _ hv149_1)).trans hv149_1) | exact hx149_1), (by first | exact ((HB.out.cell (World.block_lt_of_cell? w _ hw149_2)).trans hw149_2) | exact ((HB.out.cell (World.block_lt_of_cell? w _ hv149_2)).trans hv149_2) | exact hx149_2), (by first | exact ((HB.out.cell (World.block_lt_of_cell? w _ hw149_3)).trans hw149_3) | exact ((HB.out.cell (World.block_lt_of_cell? w _ hv149_3)).trans hv149_3) | exact hx149_3)⟩ (fun hHeld => ?_)
                    clear hK K
                    refine norm_ (a' := ?_) ?_ ?_
                    rotate_left
                    · show Act.put _ (some 31) _ = _
                      simp only [Act.put, List.setIfInBounds_toArray, List.set_cons_zero, List.set_cons_succ, i64_w, i32_w]
                      rfl
                    refine pure_ (i := 14) (N := some 32) (v := ?_) (a' := ?_) #[true, true, true, true, true, true, true, true, true, true, true, true, true, true, true, false, false, false, false, false, false, false, false, false, false, false, false, false, false, false, false, false, false, false, false, false, false, false, false] rfl rfl (any_of HT_.out (by kernel_rfl)) (fun _ _ _ h => h) (Or.inl ⟨by rfl, ?_⟩) ?_ ?_
                    rotate_left
                    · intro w'
                      go_simp
                      with_reducible rfl
                    rotate_left
                    · simp only [Act.put, List.setIfInBounds_toArray, List.set_cons_zero, List.set_cons_succ, i64_w, i32_w]
                      rfl
                    refine pure_ (i := 15) (N := some 33) (v := ?_) (a' := ?_) #[true, true, true, true, true, true, true, true, true, true, true, true, true, true, true, true, false, false, false, false, false, false, false, false, false, false, false, false, false, false, false, false, false, false, false, false, false, false, false] rfl rfl (any_of HT_.out (by kernel_rfl)) (fun _ _ _ h => h) (Or.inl ⟨by rfl, ?_⟩) ?_ ?_
                    rotate_left
                    · intro w'
                      go_simp
                      with_reducible rfl
                    rotate_left
                    · simp only [Act.put, List.setIfInBounds_toArray, List.set_cons_zero, List.set_cons_succ, i64_w, i32_w]
                      rfl
                    refine pure_ (i := 16) (N := some 34) (v := ?_) (a' := ?_) #[true, true, true, true, true, true, true, true, true, true, true, true, true, true, true, true, true, false, false, false, false, false, false, false, false, false, false, false, false, false, false, false, false, false, false, false, false, false, false] rfl rfl (any_of HT_.out (by kernel_rfl)) (fun _ _ _ h => h) (Or.inl ⟨by rfl, ?_⟩) ?_ ?_
                    rotate_left
                    · intro w'
                      go_simp
                      with_reducible rfl
                    rotate_left
                    · simp only [Act.put, List.setIfInBounds_toArray, List.set_cons_zero, List.set_cons_succ, i64_w, i32_w]
                      rfl
                    refine pure_ (i := 17) (N := some 35) (v := ?_) (a' := ?_) #[true, true, true, true, true, true, true, true, true, true, true, true, true, true, true, true, true, true, false, false, false, false, false, false, false, false, false, false, false, false, false, false, false, false, false, false, false, false, false] rfl rfl (any_of HT_.out (by kernel_rfl)) (fun _ _ _ h => h) (Or.inl ⟨by rfl, ?_⟩) ?_ ?_
                    rotate_left
                    · intro w'
                      go_simp
                      with_reducible rfl
                    rotate_left
                    · simp only [Act.put, List.setIfInBounds_toArray, List.set_cons_zero, List.set_cons_succ, i64_w, i32_w]
                      rfl
                    refine pure_ (i := 18) (N := some 36) (v := ?_) (a' := ?_) #[true, true, true, true, true, true, true, true, true, true, true, true, true, true, true, true, true, true, true, false, false, false, false, false, false, false, false, false, false, false, false, false, false, false, false, false, false, false, false] rfl rfl (any_of HT_.out (by kernel_rfl)) (fun _ _ _ h => h) (Or.inl ⟨by rfl, ?_⟩) ?_ ?_
                    rotate_left
                    · intro w'
                      go_simp
                      with_reducible rfl
                    rotate_left
                    · simp only [Act.put, List.setIfInBounds_toArray, List.set_cons_zero, List.set_cons_succ, i64_w, i32_w]
                      rfl
                    refine pure_ (i := 19) (N := some 37) (v := ?_) (a' := ?_) #[true, true, true, true, true, true, true, true, true, true, true, true, true, true, true, true, true, true, true, true, false, false, false, false, false, false, false, false, false, false, false, false, false, false, false, false, false, false, false] rfl rfl (any_of HT_.out (by kernel_rfl)) (fun _ _ _ h => h) (Or.inl ⟨by rfl, ?_⟩) ?_ ?_
                    rotate_left
                    · intro w'
                      go_simp
                      with_reducible rfl
                    rotate_left
                    · simp only [Act.put, List.setIfInBounds_toArray, List.set_cons_zero, List.set_cons_succ, i64_w, i32_w]
                      rfl
                    refine take_ (i := 20) (N := some 38) (v := ?_) (a' := ?_) #[true, true, true, true, true, true, true, true, true, true, true, true, true, true, true, true, true, true, true, true, true, false, false, false, false, false, false, false, false, false, false, false, false, false, false, false, false, false, false] rfl rfl (take_ofW HT_.out HW_.out (by kernel_rfl)) (fun _ _ _ h => h) (Or.inl ⟨by rfl, ?_⟩) hHeld ?_ ?_
                    rotate_left
                    · rintro w' ⟨s0, s1, s2, s3, s4, s5, s6, s7, s8, s9, s10, s11, s12, s13, s14, s15, s16, s17, s18, s19⟩
                      go_simp
                      with_reducible rfl
                    rotate_left
                    · simp only [Act.put, List.setIfInBounds_toArray, List.set_cons_zero, List.set_cons_succ, i64_w, i32_w]
                      rfl
                    refine one_ (i := 21) (N := some 39) #[true, true, true, true, true, true, true, true, true, true, true, true, true, true, true, true, true, true, true, true, true, true, false, false, false, false, false, false, false, false, false, false, false, false, false, false, false, false, false] rfl rfl (one_of HT_.out (by kernel_rfl)) (by decide) (fun K hK => ?_)
                    refine goes_ Try.func65 (by kernel_rfl) rfl #[.slice A142_3 ((rd_T112 l0 x3_1).f3).length c142_3] (by rfl) rfl rfl (by (try simp only [List.map_toArray, List.map_cons, List.map_nil]); first | done | rfl | (simp only [List.length_drop, List.length_take]; rfl)) ?_
                    with_reducible refine (spec_l01Ok.calls k1 _ _ ((rd_T112 l0 x3_1).f3) true _ ?side1 ?side2 A10.out).mono ?_
                    (case side1 => repeat (first | exact (Kd.C_below HR146_3.out (by repeat (first | (with_reducible first | exact HB.out | apply below_alloc | apply pw_below_drewN | apply below_drew1) | exact HB.out))) | (with_reducible refine Kd.C_alloc ?_ _) | (with_reducible refine Kd.C_drewN ?_ _) | (with_reducible refine Kd.C_drew ?_)))
                    (case side2 => exact HC146_3.out)
                    rintro e w' ⟨rfl, ⟨nd, rfl⟩⟩
                    refine ⟨_, rfl, ?_⟩
                    refine hK.out _ _ ⟨(by first | exact ((HB.out.cell (World.block_lt_of_cell? w _ hw142_0)).trans hw142_0) | exact ((HB.out.cell (World.block_lt_of_cell? w _ hv142_0)).trans hv142_0) | exact hx142_0), (by first | exact ((HB.out.cell (World.block_lt_of_cell? w _ hw142_1)).trans hw142_1) | exact ((HB.out.cell (World.block_lt_of_cell? w _ hv142_1)).trans hv142_1) | exact hx142_1), (by first | exact ((HB.out.cell (World.block_lt_of_cell? w _ hw142_2)).trans hw142_2) | exact ((HB.out.cell (World.block_lt_of_cell? w _ hv142_2)).trans hv142_2) | exact hx142_2), (by first | exact ((HB.out.cell (World.block_lt_of_cell? w _ hw142_3)).trans hw142_3) | exact ((HB.out.cell (World.block_lt_of_cell? w _ hv142_3)).trans hv142_3) | exact hx142_3), (by first | exact ((HB.out.cell (World.block_lt_of_cell? w _ hw144_0)).trans hw144_0) | exact ((HB.out.cell (World.block_lt_of_cell? w _ hv144_0)).trans hv144_0) | exact hx144_0), (by first | exact ((HB.out.cell (World.block_lt_of_cell? w _ hw144_1)).trans hw144_1) | exact ((HB.out.cell (World.block_lt_of_cell? w _ hv144_1)).trans hv144_1) | exact hx144_1), (by first | exact ((HB.out.cell (World.block_lt_of_cell? w _ hw144_2)).trans hw144_2) | exact ((HB.out.cell (World.block_lt_of_cell? w _ hv144_2)).trans hv144_2) | exact hx144_2), (by first | exact ((HB.out.cell (World.block_lt_of_cell? w _ hw144_3)).trans hw144_3) | exact ((HB.out.cell (World.block_lt_of_cell? w _ hv144_3)).trans hv144_3) | exact hx144_3), (by first | exact ((HB.out.cell (World.block_lt_of_cell? w _ hw146_0)).trans hw146_0) | exact ((HB.out.cell (World.block_lt_of_cell? w _ hv146_0)).trans hv146_0) | exact hx146_0), (by first | exact ((HB.out.cell (World.block_lt_of_cell? w _ hw146_1)).trans hw146_1) | exact ((HB.out.cell (World.block_lt_of_cell? w _ hv146_1)).trans hv146_1) | exact hx146_1), (by first | exact ((HB.out.cell (World.block_lt_of_cell? w _ hw146_2)).trans hw146_2) | exact ((HB.out.cell (World.block_lt_of_cell? w _ hv146_2)).trans hv146_2) | exact hx146_2), (by first | exact ((HB.out.cell (World.block_lt_of_cell? w _ hw146_3)).trans hw146_3) | exact ((HB.out.cell (World.block_lt_of_cell? w _ hv146_3)).trans hv146_3) | exact hx146_3), (by first | exact ((HB.out.cell (World.block_lt_of_cell? w _ hw148_0)).trans hw148_0) | exact ((HB.out.cell (World.block_lt_of_cell? w _ hv148_0)).trans hv148_0) | exact hx148_0), (by first | exact ((HB.out.cell (World.block_lt_of_cell? w _ hw148_1)).trans hw148_1) | exact ((HB.out.cell (World.block_lt_of_cell? w _ hv148_1)).trans hv148_1) | exact hx148_1), (by first | exact ((HB.out.cell (World.block_lt_of_cell? w _ hw148_2)).trans hw148_2) | exact ((HB.out.cell (World.block_lt_of_cell? w _ hv148_2)).trans hv148_2) | exact hx148_2), (by first | exact ((HB.out.cell (World.block_lt_of_cell? w _ hw148_3)).trans hw148_3) | exact ((HB.out.cell (World.block_lt_of_cell? w _ hv148_3)).trans hv148_3) | exact hx148_3), (by first | exact ((HB.out.cell (World.block_lt_of_cell? w _ hw149_0)).trans hw149_0) | exact ((HB.out.cell (World.block_lt_of_cell? w _ hv149_0)).trans hv149_0) | exact hx149_0), (by first | exact ((HB.out.cell (World.block_lt_of_cell? w _ hw149_1)).trans hw149_1) | exact ((HB.out.cell (World.block_lt_of_cell? w _ hv149_1)).trans hv149_1) | exact hx149_1), (by first | exact ((HB.out.cell (World.block_lt_of_cell? w _ hw149_2)).trans hw149_2) | exact ((HB.out.cell (World.block_lt_of_cell? w _ hv149_2)).trans hv149_2) | exact hx149_2), (by first | exact ((HB.out.cell (World.block_lt_of_cell? w _ hw149_3)).trans hw149_3) | exact ((HB.out.cell (World.block_lt_of_cell? w _ hv149_3)).trans hv149_3) | exact hx149_3)⟩ (fun hHeld => ?_)
                    clear hK K
                    refine norm_ (a' := ?_) ?_ ?_
                    rotate_left
                    · show Act.put _ (some 39) _ = _
                      simp only [Act.put, List.setIfInBounds_toArray, List.set_cons_zero, List.set_cons_succ, i64_w, i32_w]
                      rfl
                    refine pure_ (i := 22) (N := some 40) (v := ?_) (a' := ?_) #[true, true, true, true, true, true, true, true, true, true, true, true, true, true, true, true, true, true, true, true, true, true, true, false, false, false, false, false, false, false, false, false, false, false, false, false, false, false, false] rfl rfl (any_of HT_.out (by kernel_rfl)) (fun _ _ _ h => h) (Or.inl ⟨by rfl, ?_⟩) ?_ ?_
                    rotate_left
                    · intro w'
                      go_simp
                      with_reducible rfl
                    rotate_left
                    · simp only [Act.put, List.setIfInBounds_toArray, List.set_cons_zero, List.set_cons_succ, i64_w, i32_w]
                      rfl
                    refine pure_ (i := 23) (N := some 41) (v := ?_) (a' := ?_) #[true, true, true, true, true, true, true, true, true, true, true, true, true, true, true, true, true, true, true, true, true, true, true, true, false, false, false, false, false, false, false, false, false, false, false, false, false, false, false] rfl rfl (any_of HT_.out (by kernel_rfl)) (fun _ _ _ h => h) (Or.inl ⟨by rfl, ?_⟩) ?_ ?_
                    rotate_left
                    · intro w'
                      go_simp
                      with_reducible rfl
                    rotate_left
                    · simp only [Act.put, List.setIfInBounds_toArray, List.set_cons_zero, List.set_cons_succ, i64_w, i32_w]
                      rfl
                    refine pure_ (i := 24) (N := some 42) (v := ?_) (a' := ?_) #[true, true, true, true, true, true, true, true, true, true, true, true, true, true, true, true, true, true, true, true, true, true, true, true, true, false, false, false, false, false, false, false, false, false, false, false, false, false, false] rfl rfl (any_of HT_.out (by kernel_rfl)) (fun _ _ _ h => h) (Or.inl ⟨by rfl, ?_⟩) ?_ ?_
                    rotate_left
                    · intro w'
                      go_simp
                      with_reducible rfl
                    rotate_left
                    · simp only [Act.put, List.setIfInBounds_toArray, List.set_cons_zero, List.set_cons_succ, i64_w, i32_w]
                      rfl
                    refine pure_ (i := 25) (N := some 43) (v := ?_) (a' := ?_) #[true, true, true, true, true, true, true, true, true, true, true, true, true, true, true, true, true, true, true, true, true, true, true, true, true, true, false, false, false, false, false, false, false, false, false, false, false, false, false] rfl rfl (any_of HT_.out (by kernel_rfl)) (fun _ _ _ h => h) (Or.inl ⟨by rfl, ?_⟩) ?_ ?_
                    rotate_left
                    · intro w'
                      go_simp
                      with_reducible rfl
                    rotate_left
                    · simp only [Act.put, List.setIfInBounds_toArray, List.set_cons_zero, List.set_cons_succ, i64_w, i32_w]
                      rfl
                    refine pure_ (i := 26) (N := some 44) (v := ?_) (a' := ?_) #[true, true, true, true, true, true, true, true, true, true, true, true, true, true, true, true, true, true, true, true, true, true, true, true, true, true, true, false, false, false, false, false, false, false, false, false, false, false, false] rfl rfl (any_of HT_.out (by kernel_rfl)) (fun _ _ _ h => h) (Or.inl ⟨by rfl, ?_⟩) ?_ ?_
                    rotate_left
                    · intro w'
                      go_simp
                      with_reducible rfl
                    rotate_left
                    · simp only [Act.put, List.setIfInBounds_toArray, List.set_cons_zero, List.set_cons_succ, i64_w, i32_w]
                      rfl
                    refine pure_ (i := 27) (N := some 45) (v := ?_) (a' := ?_) #[true, true, true, true, true, true, true, true, true, true, true, true, true, true, true, true, true, true, true, true, true, true, true, true, true, true, true, true, false, false, false, false, false, false, false, false, false, false, false] rfl rfl (any_of HT_.out (by kernel_rfl)) (fun _ _ _ h => h) (Or.inl ⟨by rfl, ?_⟩) ?_ ?_
                    rotate_left
                    · intro w'
                      go_simp
                      with_reducible rfl
                    rotate_left
                    · simp only [Act.put, List.setIfInBounds_toArray, List.set_cons_zero, List.set_cons_succ, i64_w, i32_w]
                      rfl
                    refine pure_ (i := 30) (N := some 48) (v := ?_) (a' := ?_) #[true, true, true, true, true, true, true, true, true, true, true, true, true, true, true, true, true, true, true, true, true, true, true, true, true, true, true, true, false, false, true, false, false, false, false, false, false, false, false] rfl rfl (any_of HT_.out (by kernel_rfl)) (fun _ _ _ h => h) (Or.inl ⟨by rfl, ?_⟩) ?_ ?_
                    rotate_left
                    · intro w'
                      go_simp
                      with_reducible rfl
                    rotate_left
                    · simp only [Act.put, List.setIfInBounds_toArray, List.set_cons_zero, List.set_cons_succ, i64_w, i32_w]
                      rfl
                    refine pure_ (i := 31) (N := some 49) (v := ?_) (a' := ?_) #[true, true, true, true, true, true, true, true, true, true, true, true, true, true, true, true, true, true, true, true, true, true, true, true, true, true, true, true, false, false, true, true, false, false, false, false, false, false, false] rfl rfl (any_of HT_.out (by kernel_rfl)) (fun _ _ _ h => h) (Or.inl ⟨by rfl, ?_⟩) ?_ ?_
                    rotate_left
                    · intro w'
                      go_simp
                      with_reducible rfl
                    rotate_left
                    · simp only [Act.put, List.setIfInBounds_toArray, List.set_cons_zero, List.set_cons_succ, i64_w, i32_w]
                      rfl
                    refine pure_ (i := 32) (N := some 50) (v := ?_) (a' := ?_) #[true, true, true, true, true, true, true, true, true, true, true, true, true, true, true, true, true, true, true, true, true, true, true, true, true, true, true, true, false, false, true, true, true, false, false, false, false, false, false] rfl rfl (any_of HT_.out (by kernel_rfl)) (fun _ _ _ h => h) (Or.inl ⟨by rfl, ?_⟩) ?_ ?_
                    rotate_left
                    · intro w'
                      go_simp
                      with_reducible rfl
                    rotate_left
                    · simp only [Act.put, List.setIfInBounds_toArray, List.set_cons_zero, List.set_cons_succ, i64_w, i32_w]
                      rfl
                    refine take_ (i := 28) (N := some 46) (v := ?_) (a' := ?_) #[true, true, true, true, true, true, true, true, true, true, true, true, true, true, true, true, true, true, true, true, true, true, true, true, true, true, true, true, true, false, true, true, true, false, false, false, false, false, false] rfl rfl (take_ofW HT_.out HW_.out (by kernel_rfl)) (fun _ _ _ h => h) (Or.inl ⟨by rfl, ?_⟩) hHeld ?_ ?_
                    rotate_left
                    · rintro w' ⟨s0, s1, s2, s3, s4, s5, s6, s7, s8, s9, s10, s11, s12, s13, s14, s15, s16, s17, s18, s19⟩
                      go_simp
                      with_reducible rfl
                    rotate_left
                    · simp only [Act.put, List.setIfInBounds_toArray, List.set_cons_zero, List.set_cons_succ, i64_w, i32_w]
                      rfl
                    refine pure_ (i := 29) (N := some 47) (v := ?_) (a' := ?_) #[true, true, true, true, true, true, true, true, true, true, true, true, true, true, true, true, true, true, true, true, true, true, true, true, true, true, true, true, true, true, true, true, true, false, false, false, false, false, false] rfl rfl (any_of HT_.out (by kernel_rfl)) (fun _ _ _ h => h) (Or.inl ⟨by rfl, ?_⟩) ?_ ?_
                    rotate_left
                    · intro w'
                      go_simp
                      with_reducible rfl
                    rotate_left
                    · simp only [Act.put, List.setIfInBounds_toArray, List.set_cons_zero, List.set_cons_succ, i64_w, i32_w]
                      rfl
                    refine take_ (i := 33) (N := some 51) (v := ?_) (a' := ?_) #[true, true, true, true, true, true, true, true, true, true, true, true, true, true, true, true, true, true, true, true, true, true, true, true, true, true, true, true, true, true, true, true, true, true, false, false, false, false, false] rfl rfl (take_ofW HT_.out HW_.out (by kernel_rfl)) (fun _ _ _ h => h) (Or.inl ⟨by rfl, ?_⟩) hHeld ?_ ?_
                    rotate_left
                    · rintro w' ⟨s0, s1, s2, s3, s4, s5, s6, s7, s8, s9, s10, s11, s12, s13, s14, s15, s16, s17, s18, s19⟩
                      go_simp
                      with_reducible rfl
                    rotate_left
                    · simp only [Act.put, List.setIfInBounds_toArray, List.set_cons_zero, List.set_cons_succ, i64_w, i32_w]
                      rfl
                    refine pure_ (i := 34) (N := some 52) (v := ?_) (a' := ?_) #[true, true, true, true, true, true, true, true, true, true, true, true, true, true, true, true, true, true, true, true, true, true, true, true, true, true, true, true, true, true, true, true, true, true, true, false, false, false, false] rfl rfl (any_of HT_.out (by kernel_rfl)) (fun _ _ _ h => h) (Or.inl ⟨by rfl, ?_⟩) ?_ ?_
                    rotate_left
                    · intro w'
                      go_simp
                      with_reducible rfl
                    rotate_left
                    · simp only [Act.put, List.setIfInBounds_toArray, List.set_cons_zero, List.set_cons_succ, i64_w, i32_w]
                      rfl
                    refine pure_ (i := 35) (N := some 53) (v := ?_) (a' := ?_) #[true, true, true, true, true, true, true, true, true, true, true, true, true, true, true, true, true, true, true, true, true, true, true, true, true, true, true, true, true, true, true, true, true, true, true, true, false, false, false] rfl rfl (any_of HT_.out (by kernel_rfl)) (fun _ _ _ h => h) (Or.inl ⟨by rfl, ?_⟩) ?_ ?_
                    rotate_left
                    · intro w'
                      go_simp
                      with_reducible rfl
                    rotate_left
                    · simp only [Act.put, List.setIfInBounds_toArray, List.set_cons_zero, List.set_cons_succ, i64_w, i32_w]
                      rfl
                    refine one_ (i := 36) (N := some 54) #[true, true, true, true, true, true, true, true, true, true, true, true, true, true, true, true, true, true, true, true, true, true, true, true, true, true, true, true, true, true, true, true, true, true, true, true, true, false, false] rfl rfl (one_of HT_.out (by kernel_rfl)) (by decide) (fun K hK => ?_)
                    refine goes_ Try.func71 (by kernel_rfl) rfl #[.int .i64 (wrap64 ((rd_T112 l0 x3_1).f2)), .int .i64 0, .int .i64 (wrap64 ((((rd_T112 l0 x3_1).f3).length : Int) - 1))] (by rfl) rfl rfl (by (try simp only [List.map_toArray, List.map_cons, List.map_nil]); first | done | rfl | (simp only [List.length_drop, List.length_take]; rfl)) ?_
                    with_reducible refine (spec_l00In.calls (wrap64 ((rd_T112 l0 x3_1).f2)) 0 (wrap64 ((((rd_T112 l0 x3_1).f3).length : Int) - 1)) false _ A12.out).mono ?_
                    rintro e w' ⟨rfl, ⟨nd, rfl⟩⟩
                    refine ⟨_, rfl, ?_⟩
                    refine hK.out _ _ ⟨(by first | exact ((HB.out.cell (World.block_lt_of_cell? w _ hw142_0)).trans hw142_0) | exact ((HB.out.cell (World.block_lt_of_cell? w _ hv142_0)).trans hv142_0) | exact hx142_0), (by first | exact ((HB.out.cell (World.block_lt_of_cell? w _ hw142_1)).trans hw142_1) | exact ((HB.out.cell (World.block_lt_of_cell? w _ hv142_1)).trans hv142_1) | exact hx142_1), (by first | exact ((HB.out.cell (World.block_lt_of_cell? w _ hw142_2)).trans hw142_2) | exact ((HB.out.cell (World.block_lt_of_cell? w _ hv142_2)).trans hv142_2) | exact hx142_2), (by first | exact ((HB.out.cell (World.block_lt_of_cell? w _ hw142_3)).trans hw142_3) | exact ((HB.out.cell (World.block_lt_of_cell? w _ hv142_3)).trans hv142_3) | exact hx142_3), (by first | exact ((HB.out.cell (World.block_lt_of_cell? w _ hw144_0)).trans hw144_0) | exact ((HB.out.cell (World.block_lt_of_cell? w _ hv144_0)).trans hv144_0) | exact hx144_0), (by first | exact ((HB.out.cell (World.block_lt_of_cell? w _ hw144_1)).trans hw144_1) | exact ((HB.out.cell (World.block_lt_of_cell? w _ hv144_1)).trans hv144_1) | exact hx144_1), (by first | exact ((HB.out.cell (World.block_lt_of_cell? w _ hw144_2)).trans hw144_2) | exact ((HB.out.cell (World.block_lt_of_cell? w _ hv144_2)).trans hv144_2) | exact hx144_2), (by first | exact ((HB.out.cell (World.block_lt_of_cell? w _ hw144_3)).trans hw144_3) | exact ((HB.out.cell (World.block_lt_of_cell? w _ hv144_3)).trans hv144_3) | exact hx144_3), (by first | exact ((HB.out.cell (World.block_lt_of_cell? w _ hw146_0)).trans hw146_0) | exact ((HB.out.cell (World.block_lt_of_cell? w _ hv146_0)).trans hv146_0) | exact hx146_0), (by first | exact ((HB.out.cell (World.block_lt_of_cell? w _ hw146_1)).trans hw146_1) | exact ((HB.out.cell (World.block_lt_of_cell? w _ hv146_1)).trans hv146_1) | exact hx146_1), (by first | exact ((HB.out.cell (World.block_lt_of_cell? w _ hw146_2)).trans hw146_2) | exact ((HB.out.cell (World.block_lt_of_cell? w _ hv146_2)).trans hv146_2) | exact hx146_2), (by first | exact ((HB.out.cell (World.block_lt_of_cell? w _ hw146_3)).trans hw146_3) | exact ((HB.out.cell (World.block_lt_of_cell? w _ hv146_3)).trans hv146_3) | exact hx146_3), (by first | exact ((HB.out.cell (World.block_lt_of_cell? w _ hw148_0)).trans hw148_0) | exact ((HB.out.cell (World.block_lt_of_cell? w _ hv148_0)).trans hv148_0) | exact hx148_0), (by first | exact ((HB.out.cell (World.block_lt_of_cell? w _ hw148_1)).trans hw148_1) | exact ((HB.out.cell (World.block_lt_of_cell? w _ hv148_1)).trans hv148_1) | exact hx148_1), (by first | exact ((HB.out.cell (World.block_lt_of_cell? w _ hw148_2)).trans hw148_2) | exact ((HB.out.cell (World.block_lt_of_cell? w _ hv148_2)).trans hv148_2) | exact hx148_2), (by first | exact ((HB.out.cell (World.block_lt_of_cell? w _ hw148_3)).trans hw148_3) | exact ((HB.out.cell (World.block_lt_of_cell? w _ hv148_3)).trans hv148_3) | exact hx148_3), (by first | exact ((HB.out.cell (World.block_lt_of_cell? w _ hw149_0)).trans hw149_0) | exact ((HB.out.cell (World.block_lt_of_cell? w _ hv149_0)).trans hv149_0) | exact hx149_0), (by first | exact ((HB.out.cell (World.block_lt_of_cell? w _ hw149_1)).trans hw149_1) | exact ((HB.out.cell (World.block_lt_of_cell? w _ hv149_1)).trans hv149_1) | exact hx149_1), (by first | exact ((HB.out.cell (World.block_lt_of_cell? w _ hw149_2)).trans hw149_2) | exact ((HB.out.cell (World.block_lt_of_cell? w _ hv149_2)).trans hv149_2) | exact hx149_2), (by first | exact ((HB.out.cell (World.block_lt_of_cell? w _ hw149_3)).trans hw149_3) | exact ((HB.out.cell (World.block_lt_of_cell? w _ hv149_3)).trans hv149_3) | exact hx149_3)⟩ (fun hHeld => ?_)
                    clear hK K
                    refine norm_ (a' := ?_) ?_ ?_
                    rotate_left
                    · show Act.put _ (some 54) _ = _
                      simp only [Act.put, List.setIfInBounds_toArray, List.set_cons_zero, List.set_cons_succ, i64_w, i32_w]
                      rfl
                    refine pure_ (i := 37) (N := some 55) (v := ?_) (a' := ?_) #[true, true, true, true, true, true, true, true, true, true, true, true, true, true, true, true, true, true, true, true, true, true, true, true, true, true, true, true, true, true, true, true, true, true, true, true, true, true, false] rfl rfl (any_of HT_.out (by kernel_rfl)) (fun _ _ _ h => h) (Or.inl ⟨by rfl, ?_⟩) ?_ ?_
                    rotate_left
                    · intro w'
                      go_simp
                      with_reducible rfl
                    rotate_left
                    · simp only [Act.put, List.setIfInBounds_toArray, List.set_cons_zero, List.set_cons_succ, i64_w, i32_w]
                      rfl
                    refine pure_ (i := 38) (N := some 56) (v := ?_) (a' := ?_) #[true, true, true, true, true, true, true, true, true, true, true, true, true, true, true, true, true, true, true, true, true, true, true, true, true, true, true, true, true, true, true, true, true, true, true, true, true, true, true] rfl rfl (any_of HT_.out (by kernel_rfl)) (fun _ _ _ h => h) (Or.inl ⟨by rfl, ?_⟩) ?_ ?_
                    rotate_left
                    · intro w'
                      go_simp
                      with_reducible rfl
                    rotate_left
                    · simp only [Act.put, List.setIfInBounds_toArray, List.set_cons_zero, List.set_cons_succ, i64_w, i32_w]
                      rfl
                    refine done_ (done_of HT_.out (by kernel_rfl)) ?_
                    try go_wp2
                    go_ret
                    exact ⟨by first | rfl | (simp [errW_none, errW_some] <;> rfl) | (simp [*, errW_none, errW_some] <;> rfl), by repeat (first | (with_reducible first | exact HB.out | apply below_alloc | apply pw_below_drewN | apply below_drew1) | exact HB.out)⟩
                · replace c11 := Bool.eq_false_iff.mpr c11
                  subst c11
                  have H1 : (some false) = some r := by rw [if_neg (show ¬ (false = true) by decide)] at H; exact H
                  clear H
                  have H := H1
                  clear H1
                  obtain rfl := Option.some.inj H
                  have p141 : 0 ≤ (x3_1 : Int) := of_decide_eq_true (by first | (with_reducible assumption) | assumption)
                  have q141 : x3_1 < (l0.length : Int) := of_decide_eq_true (by first | (with_reducible assumption) | assumption)
                  obtain ⟨ad141, A141_3, c141_3, e141, hx141_0, hx141_1, hx141_2, hx141_3, hl141_3, hi141_3⟩ := at_T112 HR0.out x3_1 p141 q141
                  cases e141
                  replace hx141_0 := (HB.out.cell (World.block_lt_of_cell? w _ hx141_0)).trans hx141_0
                  replace hx141_1 := (HB.out.cell (World.block_lt_of_cell? w _ hx141_1)).trans hx141_1
                  replace hx141_2 := (HB.out.cell (World.block_lt_of_cell? w _ hx141_2)).trans hx141_2
                  replace hx141_3 := (HB.out.cell (World.block_lt_of_cell? w _ hx141_3)).trans hx141_3
                  have HR141_3 := Aside0.mk hi141_3
                  have HC141_3 := Aside0.mk hl141_3
                  clear hi141_3 hl141_3
                  replace p141 := eq_true p141
                  replace q141 := eq_true q141
                  try go_wp2
                  have n0_ := Aside0.mk (below_drew1 HB.out)
                  clear HB
                  have HB := n0_
                  clear n0_
                  have p142 : 0 ≤ (x3_1 : Int) := of_decide_eq_true (by first | (with_reducible assumption) | assumption)
                  have q142 : x3_1 < (l0.length : Int) := of_decide_eq_true (by first | (with_reducible assumption) | assumption)
                  obtain ⟨ad142, A142_3, c142_3, e142, hx142_0, hx142_1, hx142_2, hx142_3, hl142_3, hi142_3⟩ := at_T112 HR0.out x3_1 p142 q142
                  have hw142_3 := hx142_3
                  have hw142_2 := hx142_2
                  have hw142_1 := hx142_1
                  have hw142_0 := hx142_0
                  obtain rfl : ad141 = ad142 := (by injection e142)
                  replace hx142_0 := (HB.out.cell (World.block_lt_of_cell? w _ hx142_0)).trans hx142_0
                  replace hx142_1 := (HB.out.cell (World.block_lt_of_cell? w _ hx142_1)).trans hx142_1
                  replace hx142_2 := (HB.out.cell (World.block_lt_of_cell? w _ hx142_2)).trans hx142_2
                  replace hx142_3 := (HB.out.cell (World.block_lt_of_cell? w _ hx142_3)).trans hx142_3
                  have HR142_3 := Aside0.mk hi142_3
                  have HC142_3 := Aside0.mk hl142_3
                  clear hi142_3 hl142_3
                  replace p142 := eq_true p142
                  replace q142 := eq_true q142
                  have p144 : 0 ≤ (x3_1 : Int) := of_decide_eq_true (by first | (with_reducible assumption) | assumption)
                  have q144 : x3_1 < (l0.length : Int) := of_decide_eq_true (by first | (with_reducible assumption) | assumption)
                  obtain ⟨ad144, A144_3, c144_3, e144, hx144_0, hx144_1, hx144_2, hx144_3, hl144_3, hi144_3⟩ := at_T112 HR0.out x3_1 p144 q144
                  have hw144_3 := hx144_3
                  have hw144_2 := hx144_2
                  have hw144_1 := hx144_1
                  have hw144_0 := hx144_0
                  obtain rfl : ad141 = ad144 := (by injection e144)
                  replace hx144_0 := (HB.out.cell (World.block_lt_of_cell? w _ hx144_0)).trans hx144_0
                  replace hx144_1 := (HB.out.cell (World.block_lt_of_cell? w _ hx144_1)).trans hx144_1
                  replace hx144_2 := (HB.out.cell (World.block_lt_of_cell? w _ hx144_2)).trans hx144_2
                  replace hx144_3 := (HB.out.cell (World.block_lt_of_cell? w _ hx144_3)).trans hx144_3
                  have HR144_3 := Aside0.mk hi144_3
                  have HC144_3 := Aside0.mk hl144_3
                  clear hi144_3 hl144_3
                  replace p144 := eq_true p144
                  replace q144 := eq_true q144
                  have ea_ := Option.some.inj (hx142_3.symm.trans hx144_3)
                  injection ea_ with ea_ en_ ec_
                  subst ea_
                  subst ec_
                  clear en_
                  have p146 : 0 ≤ (x3_1 : Int) := of_decide_eq_true (by first | (with_reducible assumption) | assumption)
                  have q146 : x3_1 < (l0.length : Int) := of_decide_eq_true (by first | (with_reducible assumption) | assumption)
                  obtain ⟨ad146, A146_3, c146_3, e146, hx146_0, hx146_1, hx146_2, hx146_3, hl146_3, hi146_3⟩ := at_T112 HR0.out x3_1 p146 q146
                  have hw146_3 := hx146_3
                  have hw146_2 := hx146_2
                  have hw146_1 := hx146_1
                  have hw146_0 := hx146_0
                  obtain rfl : ad141 = ad146 := (by injection e146)
                  replace hx146_0 := (HB.out.cell (World.block_lt_of_cell? w _ hx146_0)).trans hx146_0
                  replace hx146_1 := (HB.out.cell (World.block_lt_of_cell? w _ hx146_1)).trans hx146_1
                  replace hx146_2 := (HB.out.cell (World.block_lt_of_cell? w _ hx146_2)).trans hx146_2
                  replace hx146_3 := (HB.out.cell (World.block_lt_of_cell? w _ hx146_3)).trans hx146_3
                  have HR146_3 := Aside0.mk hi146_3
                  have HC146_3 := Aside0.mk hl146_3
                  clear hi146_3 hl146_3
                  replace p146 := eq_true p146
                  replace q146 := eq_true q146
                  have ea_ := Option.some.inj (hx142_3.symm.trans hx146_3)
                  injection ea_ with ea_ en_ ec_
                  subst ea_
                  subst ec_
                  clear en_
                  refine start_ (n := 39) (S := fun w' => w'.cell? (ad141.add ((x3_1).toNat * 4)) = some (.int .i16 ((rd_T112 l0 x3_1).f0)) ∧ w'.cell? ⟨(ad141.add ((x3_1).toNat * 4)).block, (ad141.add ((x3_1).toNat * 4)).off + 1, none⟩ = some (.int .i16 ((rd_T112 l0 x3_1).f1)) ∧ w'.cell? ⟨(ad141.add ((x3_1).toNat * 4)).block, (ad141.add ((x3_1).toNat * 4)).off + 2, none⟩ = some (.int .i16 ((rd_T112 l0 x3_1).f2)) ∧ w'.cell? ⟨(ad141.add ((x3_1).toNat * 4)).block, (ad141.add ((x3_1).toNat * 4)).off + 3, none⟩ = some (.slice A142_3 ((rd_T112 l0 x3_1).f3).length c142_3) ∧ w'.cell? (ad141.add ((x3_1).toNat * 4)) = some (.int .i16 ((rd_T112 l0 x3_1).f0)) ∧ w'.cell? ⟨(ad141.add ((x3_1).toNat * 4)).block, (ad141.add ((x3_1).toNat * 4)).off + 1, none⟩ = some (.int .i16 ((rd_T112 l0 x3_1).f1)) ∧ w'.cell? ⟨(ad141.add ((x3_1).toNat * 4)).block, (ad141.add ((x3_1).toNat * 4)).off + 2, none⟩ = some (.int .i16 ((rd_T112 l0 x3_1).f2)) ∧ w'.cell? ⟨(ad141.add ((x3_1).toNat * 4)).block, (ad141.add ((x3_1).toNat * 4)).off + 3, none⟩ = some (.slice A142_3 ((rd_T112 l0 x3_1).f3).length c142_3) ∧ w'.cell? (ad141.add ((x3_1).toNat * 4)) = some (.int .i16 ((rd_T112 l0 x3_1).f0)) ∧ w'.cell? ⟨(ad141.add ((x3_1).toNat * 4)).block, (ad141.add ((x3_1).toNat * 4)).off + 1, none⟩ = some (.int .i16 ((rd_T112 l0 x3_1).f1)) ∧ w'.cell? ⟨(ad141.add ((x3_1).toNat * 4)).block, (ad141.add ((x3_1).toNat * 4)).off + 2, none⟩ = some (.int .i16 ((rd_T112 l0 x3_1).f2)) ∧ w'.cell? ⟨(ad141.add ((x3_1).toNat * 4)).block, (ad141.add ((x3_1).toNat * 4)).off + 3, none⟩ = some (.slice A142_3 ((rd_T112 l0 x3_1).f3).length c142_3)) (ds := []) #[false, false, false, false, false, false, false, false, false, false, false, false, false, false, false, false, false, false, false, false, false, false, false, false, false, false, false, false, false, false, false, false, false, false, false, false, false, false, false] (by kernel_rfl) rfl rfl ⟨(by first | exact ((HB.out.cell (World.block_lt_of_cell? w _ hw142_0)).trans hw142_0) | exact ((HB.out.cell (World.block_lt_of_cell? w _ hv142_0)).trans hv142_0) | exact hx142_0), (by first | exact ((HB.out.cell (World.block_lt_of_cell? w _ hw142_1)).trans hw142_1) | exact ((HB.out.cell (World.block_lt_of_cell? w _ hv142_1)).trans hv142_1) | exact hx142_1), (by first | exact ((HB.out.cell (World.block_lt_of_cell? w _ hw142_2)).trans hw142_2) | exact ((HB.out.cell (World.block_lt_of_cell? w _ hv142_2)).trans hv142_2) | exact hx142_2), (by first | exact ((HB.out.cell (World.block_lt_of_cell? w _ hw142_3)).trans hw142_3) | exact ((HB.out.cell (World.block_lt_of_cell? w _ hv142_3)).trans hv142_3) | exact hx142_3), (by first | exact ((HB.out.cell (World.block_lt_of_cell? w _ hw144_0)).trans hw144_0) | exact ((HB.out.cell (World.block_lt_of_cell? w _ hv144_0)).trans hv144_0) | exact hx144_0), (by first | exact ((HB.out.cell (World.block_lt_of_cell? w _ hw144_1)).trans hw144_1) | exact ((HB.out.cell (World.block_lt_of_cell? w _ hv144_1)).trans hv144_1) | exact hx144_1), (by first | exact ((HB.out.cell (World.block_lt_of_cell? w _ hw144_2)).trans hw144_2) | exact ((HB.out.cell (World.block_lt_of_cell? w _ hv144_2)).trans hv144_2) | exact hx144_2), (by first | exact ((HB.out.cell (World.block_lt_of_cell? w _ hw144_3)).trans hw144_3) | exact ((HB.out.cell (World.block_lt_of_cell? w _ hv144_3)).trans hv144_3) | exact hx144_3), (by first | exact ((HB.out.cell (World.block_lt_of_cell? w _ hw146_0)).trans hw146_0) | exact ((HB.out.cell (World.block_lt_of_cell? w _ hv146_0)).trans hv146_0) | exact hx146_0), (by first | exact ((HB.out.cell (World.block_lt_of_cell? w _ hw146_1)).trans hw146_1) | exact ((HB.out.cell (World.block_lt_of_cell? w _ hv146_1)).trans hv146_1) | exact hx146_1), (by first | exact ((HB.out.cell (World.block_lt_of_cell? w _ hw146_2)).trans hw146_2) | exact ((HB.out.cell (World.block_lt_of_cell? w _ hv146_2)).trans hv146_2) | exact hx146_2), (by first | exact ((HB.out.cell (World.block_lt_of_cell? w _ hw146_3)).trans hw146_3) | exact ((HB.out.cell (World.block_lt_of_cell? w _ hv146_3)).trans hv146_3) | exact hx146_3)⟩ (fun hHeld => ?_); refine with_tabW spec_l04Ok.tab7 spec_l04Ok.bits7 (fun HT_ HW_ => ?_)
                  generalize wr.drew = w16 at HB HR142_3 HR144_3 HR146_3 hx142_0 hx142_1 hx142_2 hx142_3 hx144_0 hx144_1 hx144_2 hx144_3 hx146_0 hx146_1 hx146_2 hx146_3 hHeld ⊢
                  refine pure_ (i := 0) (N := some 18) (v := ?_) (a' := ?_) #[true, false, false, false, false, false, false, false, false, false, false, false, false, false, false, false, false, false, false, false, false, false, false, false, false, false, false, false, false, false, false, false, false, false, false, false, false, false, false] rfl rfl (any_of HT_.out (by kernel_rfl)) (fun _ _ _ h => h) (Or.inl ⟨by rfl, ?_⟩) ?_ ?_
                  rotate_left
                  · intro w'
                    go_simp
                    with_reducible rfl
                  rotate_left
                  · simp only [Act.put, List.setIfInBounds_toArray, List.set_cons_zero, List.set_cons_succ, i64_w, i32_w]
                    rfl
                  refine pure_ (i := 1) (N := some 19) (v := ?_) (a' := ?_) #[true, true, false, false, false, false, false, false, false, false, false, false, false, false, false, false, false, false, false, false, false, false, false, false, false, false, false, false, false, false, false, false, false, false, false, false, false, false, false] rfl rfl (any_of HT_.out (by kernel_rfl)) (fun _ _ _ h => h) (Or.inl ⟨by rfl, ?_⟩) ?_ ?_
                  rotate_left
                  · intro w'
                    go_simp
                    with_reducible rfl
                  rotate_left
                  · simp only [Act.put, List.setIfInBounds_toArray, List.set_cons_zero, List.set_cons_succ, i64_w, i32_w]
                    rfl
                  refine pure_ (i := 2) (N := some 20) (v := ?_) (a' := ?_) #[true, true, true, false, false, false, false, false, false, false, false, false, false, false, false, false, false, false, false, false, false, false, false, false, false, false, false, false, false, false, false, false, false, false, false, false, false, false, false] rfl rfl (any_of HT_.out (by kernel_rfl)) (fun _ _ _ h => h) (Or.inl ⟨by rfl, ?_⟩) ?_ ?_
                  rotate_left
                  · intro w'
                    go_simp
                    with_reducible rfl
                  rotate_left
                  · simp only [Act.put, List.setIfInBounds_toArray, List.set_cons_zero, List.set_cons_succ, i64_w, i32_w]
                    rfl
                  refine take_ (i := 3) (N := some 21) (v := ?_) (a' := ?_) #[true, true, true, true, false, false, false, false, false, false, false, false, false, false, false, false, false, false, false, false, false, false, false, false, false, false, false, false, false, false, false, false, false, false, false, false, false, false, false] rfl rfl (take_ofW HT_.out HW_.out (by kernel_rfl)) (fun _ _ _ h => h) (Or.inl ⟨by rfl, ?_⟩) hHeld ?_ ?_
                  rotate_left
                  · rintro w' ⟨s0, s1, s2, s3, s4, s5, s6, s7, s8, s9, s10, s11⟩
                    go_simp
                    with_reducible rfl
                  rotate_left
                  · simp only [Act.put, List.setIfInBounds_toArray, List.set_cons_zero, List.set_cons_succ, i64_w, i32_w]
                    rfl
                  refine pure_ (i := 4) (N := some 22) (v := ?_) (a' := ?_) #[true, true, true, true, true, false, false, false, false, false, false, false, false, false, false, false, false, false, false, false, false, false, false, false, false, false, false, false, false, false, false, false, false, false, false, false, false, false, false] rfl rfl (any_of HT_.out (by kernel_rfl)) (fun _ _ _ h => h) (Or.inl ⟨by rfl, ?_⟩) ?_ ?_
                  rotate_left
                  · intro w'
                    go_simp
                    with_reducible rfl
                  rotate_left
                  · simp only [Act.put, List.setIfInBounds_toArray, List.set_cons_zero, List.set_cons_succ, i64_w, i32_w]
                    rfl
                  refine one_ (i := 5) (N := some 23) #[true, true, true, true, true, true, false, false, false, false, false, false, false, false, false, false, false, false, false, false, false, false, false, false, false, false, false, false, false, false, false, false, false, false, false, false, false, false, false] rfl rfl (one_of HT_.out (by kernel_rfl)) (by decide) (fun K hK => ?_)
                  refine goes_ Try.func71 (by kernel_rfl) rfl #[.int .i64 (wrap64 ((rd_T112 l0 x3_1).f0)), .int .i64 1, .int .i64 60] (by rfl) rfl rfl (by (try simp only [List.map_toArray, List.map_cons, List.map_nil]); first | done | rfl | (simp only [List.length_drop, List.length_take]; rfl)) ?_
                  with_reducible refine (spec_l00In.calls (wrap64 ((rd_T112 l0 x3_1).f0)) 1 60 true _ A6.out).mono ?_
                  rintro e w' ⟨rfl, ⟨nd, rfl⟩⟩
                  refine ⟨_, rfl, ?_⟩
                  refine hK.out _ _ ⟨(by first | exact ((HB.out.cell (World.block_lt_of_cell? w _ hw142_0)).trans hw142_0) | exact ((HB.out.cell (World.block_lt_of_cell? w _ hv142_0)).trans hv142_0) | exact hx142_0), (by first | exact ((HB.out.cell (World.block_lt_of_cell? w _ hw142_1)).trans hw142_1) | exact ((HB.out.cell (World.block_lt_of_cell? w _ hv142_1)).trans hv142_1) | exact hx142_1), (by first | exact ((HB.out.cell (World.block_lt_of_cell? w _ hw142_2)).trans hw142_2) | exact ((HB.out.cell (World.block_lt_of_cell? w _ hv142_2)).trans hv142_2) | exact hx142_2), (by first | exact ((HB.out.cell (World.block_lt_of_cell? w _ hw142_3)).trans hw142_3) | exact ((HB.out.cell (World.block_lt_of_cell? w _ hv142_3)).trans hv142_3) | exact hx142_3), (by first | exact ((HB.out.cell (World.block_lt_of_cell? w _ hw144_0)).trans hw144_0) | exact ((HB.out.cell (World.block_lt_of_cell? w _ hv144_0)).trans hv144_0) | exact hx144_0), (by first | exact ((HB.out.cell (World.block_lt_of_cell? w _ hw144_1)).trans hw144_1) | exact ((HB.out.cell (World.block_lt_of_cell? w _ hv144_1)).trans hv144_1) | exact hx144_1), (by first | exact ((HB.out.cell (World.block_lt_of_cell? w _ hw144_2)).trans hw144_2) | exact ((HB.out.cell (World.block_lt_of_cell? w _ hv144_2)).trans hv144_2) | exact hx144_2), (by first | exact ((HB.out.cell (World.block_lt_of_cell? w _ hw144_3)).trans hw144_3) | exact ((HB.out.cell (World.block_lt_of_cell? w _ hv144_3)).trans hv144_3) | exact hx144_3), (by first | exact ((HB.out.cell (World.block_lt_of_cell? w _ hw146_0)).trans hw146_0) | exact ((HB.out.cell (World.block_lt_of_cell? w _ hv146_0)).trans hv146_0) | exact hx146_0), (by first | exact ((HB.out.cell (World.block_lt_of_cell? w _ hw146_1)).trans hw146_1) | exact ((HB.out.cell (World.block_lt_of_cell? w _ hv146_1)).trans hv146_1) | exact hx146_1), (by first | exact ((HB.out.cell (World.block_lt_of_cell? w _ hw146_2)).trans hw146_2) | exact ((HB.out.cell (World.block_lt_of_cell? w _ hv146_2)).trans hv146_2) | exact hx146_2), (by first | exact ((HB.out.cell (World.block_lt_of_cell? w _ hw146_3)).trans hw146_3) | exact ((HB.out.cell (World.block_lt_of_cell? w _ hv146_3)).trans hv146_3) | exact hx146_3)⟩ (fun hHeld => ?_)
                  clear hK K
                  refine norm_ (a' := ?_) ?_ ?_
                  rotate_left
                  · show Act.put _ (some 23) _ = _
                    simp only [Act.put, List.setIfInBounds_toArray, List.set_cons_zero, List.set_cons_succ, i64_w, i32_w]
                    rfl
                  refine pure_ (i := 6) (N := some 24) (v := ?_) (a' := ?_) #[true, true, true, true, true, true, true, false, false, false, false, false, false, false, false, false, false, false, false, false, false, false, false, false, false, false, false, false, false, false, false, false, false, false, false, false, false, false, false] rfl rfl (any_of HT_.out (by kernel_rfl)) (fun _ _ _ h => h) (Or.inl ⟨by rfl, ?_⟩) ?_ ?_
                  rotate_left
                  · intro w'
                    go_simp
                    with_reducible rfl
                  rotate_left
                  · simp only [Act.put, List.setIfInBounds_toArray, List.set_cons_zero, List.set_cons_succ, i64_w, i32_w]
                    rfl
                  refine pure_ (i := 7) (N := some 25) (v := ?_) (a' := ?_) #[true, true, true, true, true, true, true, true, false, false, false, false, false, false, false, false, false, false, false, false, false, false, false, false, false, false, false, false, false, false, false, false, false, false, false, false, false, false, false] rfl rfl (any_of HT_.out (by kernel_rfl)) (fun _ _ _ h => h) (Or.inl ⟨by rfl, ?_⟩) ?_ ?_
                  rotate_left
                  · intro w'
                    go_simp
                    with_reducible rfl
                  rotate_left
                  · simp only [Act.put, List.setIfInBounds_toArray, List.set_cons_zero, List.set_cons_succ, i64_w, i32_w]
                    rfl
                  refine pure_ (i := 8) (N := some 26) (v := ?_) (a' := ?_) #[true, true, true, true, true, true, true, true, true, false, false, false, false, false, false, false, false, false, false, false, false, false, false, false, false, false, false, false, false, false, false, false, false, false, false, false, false, false, false] rfl rfl (any_of HT_.out (by kernel_rfl)) (fun _ _ _ h => h) (Or.inl ⟨by rfl, ?_⟩) ?_ ?_
                  rotate_left
                  · intro w'
                    go_simp
                    with_reducible rfl
                  rotate_left
                  · simp only [Act.put, List.setIfInBounds_toArray, List.set_cons_zero, List.set_cons_succ, i64_w, i32_w]
                    rfl
                  refine pure_ (i := 9) (N := some 27) (v := ?_) (a' := ?_) #[true, true, true, true, true, true, true, true, true, true, false, false, false, false, false, false, false, false, false, false, false, false, false, false, false, false, false, false, false, false, false, false, false, false, false, false, false, false, false] rfl rfl (any_of HT_.out (by kernel_rfl)) (fun _ _ _ h => h) (Or.inl ⟨by rfl, ?_⟩) ?_ ?_
                  rotate_left
                  · intro w'
                    go_simp
                    with_reducible rfl
                  rotate_left
                  · simp only [Act.put, List.setIfInBounds_toArray, List.set_cons_zero, List.set_cons_succ, i64_w, i32_w]
                    rfl
                  refine pure_ (i := 10) (N := some 28) (v := ?_) (a' := ?_) #[true, true, true, true, true, true, true, true, true, true, true, false, false, false, false, false, false, false, false, false, false, false, false, false, false, false, false, false, false, false, false, false, false, false, false, false, false, false, false] rfl rfl (any_of HT_.out (by kernel_rfl)) (fun _ _ _ h => h) (Or.inl ⟨by rfl, ?_⟩) ?_ ?_
                  rotate_left
                  · intro w'
                    go_simp
                    with_reducible rfl
                  rotate_left
                  · simp only [Act.put, List.setIfInBounds_toArray, List.set_cons_zero, List.set_cons_succ, i64_w, i32_w]
                    rfl
                  refine take_ (i := 11) (N := some 29) (v := ?_) (a' := ?_) #[true, true, true, true, true, true, true, true, true, true, true, true, false, false, false, false, false, false, false, false, false, false, false, false, false, false, false, false, false, false, false, false, false, false, false, false, false, false, false] rfl rfl (take_ofW HT_.out HW_.out (by kernel_rfl)) (fun _ _ _ h => h) (Or.inl ⟨by rfl, ?_⟩) hHeld ?_ ?_
                  rotate_left
                  · rintro w' ⟨s0, s1, s2, s3, s4, s5, s6, s7, s8, s9, s10, s11⟩
                    go_simp
                    with_reducible rfl
                  rotate_left
                  · simp only [Act.put, List.setIfInBounds_toArray, List.set_cons_zero, List.set_cons_succ, i64_w, i32_w]
                    rfl
                  refine pure_ (i := 12) (N := some 30) (v := ?_) (a' := ?_) #[true, true, true, true, true, true, true, true, true, true, true, true, true, false, false, false, false, false, false, false, false, false, false, false, false, false, false, false, false, false, false, false, false, false, false, false, false, false, false] rfl rfl (any_of HT_.out (by kernel_rfl)) (fun _ _ _ h => h) (Or.inl ⟨by rfl, ?_⟩) ?_ ?_
                  rotate_left
                  · intro w'
                    go_simp
                    with_reducible rfl
                  rotate_left
                  · simp only [Act.put, List.setIfInBounds_toArray, List.set_cons_zero, List.set_cons_succ, i64_w, i32_w]
                    rfl
                  refine one_ (i := 13) (N := some 31) #[true, true, true, true, true, true, true, true, true, true, true, true, true, true, false, false, false, false, false, false, false, false, false, false, false, false, false, false, false, false, false, false, false, false, false, false, false, false, false] rfl rfl (one_of HT_.out (by kernel_rfl)) (by decide) (fun K hK => ?_)
                  refine goes_ Try.func71 (by kernel_rfl) rfl #[.int .i64 (wrap64 ((rd_T112 l0 x3_1).f1)), .int .i64 1, .int .i64 60] (by rfl) rfl rfl (by (try simp only [List.map_toArray, List.map_cons, List.map_nil]); first | done | rfl | (simp only [List.length_drop, List.length_take]; rfl)) ?_
                  with_reducible refine (spec_l00In.calls (wrap64 ((rd_T112 l0 x3_1).f1)) 1 60 true _ A8.out).mono ?_
                  rintro e w' ⟨rfl, ⟨nd, rfl⟩⟩
                  refine ⟨_, rfl, ?_⟩
                  refine hK.out _ _ ⟨(by first | exact ((HB.out.cell (World.block_lt_of_cell? w _ hw142_0)).trans hw142_0) | exact ((HB.out.cell (World.block_lt_of_cell? w _ hv142_0)).trans hv142_0) | exact hx142_0), (by first | exact ((HB.out.cell (World.block_lt_of_cell? w _ hw142_1)).trans hw142_1) | exact ((HB.out.cell (World.block_lt_of_cell? w _ hv142_1)).trans hv142_1) | exact hx142_1), (by first | exact ((HB.out.cell (World.block_lt_of_cell? w _ hw142_2)).trans hw142_2) | exact ((HB.out.cell (World.block_lt_of_cell? w _ hv142_2)).trans hv142_2) | exact hx142_2), (by first | exact ((HB.out.cell (World.block_lt_of_cell? w _ hw142_3)).trans hw142_3) | exact ((HB.out.cell (World.block_lt_of_cell? w _ hv142_3)).trans hv142_3) | exact hx142_3), (by first | exact ((HB.out.cell (World.block_lt_of_cell? w _ hw144_0)).trans hw144_0) | exact ((HB.out.cell (World.block_lt_of_cell? w _ hv144_0)).trans hv144_0) | exact hx144_0), (by first | exact ((HB.out.cell (World.block_lt_of_cell? w _ hw144_1)).trans hw144_1) | exact ((HB.out.cell (World.block_lt_of_cell? w _ hv144_1)).trans hv144_1) | exact hx144_1), (by first | exact ((HB.out.cell (World.block_lt_of_cell? w _ hw144_2)).trans hw144_2) | exact ((HB.out.cell (World.block_lt_of_cell? w _ hv144_2)).trans hv144_2) | exact hx144_2), (by first | exact ((HB.out.cell (World.block_lt_of_cell? w _ hw144_3)).trans hw144_3) | exact ((HB.out.cell (World.block_lt_of_cell? w _ hv144_3)).trans hv144_3) | exact hx144_3), (by first | exact ((HB.out.cell (World.block_lt_of_cell? w _ hw146_0)).trans hw146_0) | exact ((HB.out.cell (World.block_lt_of_cell? w _ hv146_0)).trans hv146_0) | exact hx146_0), (by first | exact ((HB.out.cell (World.block_lt_of_cell? w _ hw146_1)).trans hw146_1) | exact ((HB.out.cell (World.block_lt_of_cell? w _ hv146_1)).trans hv146_1) | exact hx146_1), (by first | exact ((HB.out.cell (World.block_lt_of_cell? w _ hw146_2)).trans hw146_2) | exact ((HB.out.cell (World.block_lt_of_cell? w _ hv146_2)).trans hv146_2) | exact hx146_2), (by first | exact ((HB.out.cell (World.block_lt_of_cell? w _ hw146_3)).trans hw146_3) | exact ((HB.out.cell (World.block_lt_of_cell? w _ hv146_3)).trans hv146_3) | exact hx146_3)⟩ (fun hHeld => ?_)
                  clear hK K
                  refine norm_ (a' := ?_) ?_ ?_
                  rotate_left
                  · show Act.put _ (some 31) _ = _
                    simp only [Act.put, List.setIfInBounds_toArray, List.set_cons_zero, List.set_cons_succ, i64_w, i32_w]
                    rfl
                  refine pure_ (i := 14) (N := some 32) (v := ?_) (a' := ?_) #[true, true, true, true, true, true, true, true, true, true, true, true, true, true, true, false, false, false, false, false, false, false, false, false, false, false, false, false, false, false, false, false, false, false, false, false, false, false, false] rfl rfl (any_of HT_.out (by kernel_rfl)) (fun _ _ _ h => h) (Or.inl ⟨by rfl, ?_⟩) ?_ ?_
                  rotate_left
                  · intro w'
                    go_simp
                    with_reducible rfl
                  rotate_left
                  · simp only [Act.put, List.setIfInBounds_toArray, List.set_cons_zero, List.set_cons_succ, i64_w, i32_w]
                    rfl
                  refine pure_ (i := 15) (N := some 33) (v := ?_) (a' := ?_) #[true, true, true, true, true, true, true, true, true, true, true, true, true, true, true, true, false, false, false, false, false, false, false, false, false, false, false, false, false, false, false, false, false, false, false, false, false, false, false] rfl rfl (any_of HT_.out (by kernel_rfl)) (fun _ _ _ h => h) (Or.inl ⟨by rfl, ?_⟩) ?_ ?_
                  rotate_left
                  · intro w'
                    go_simp
                    with_reducible rfl
                  rotate_left
                  · simp only [Act.put, List.setIfInBounds_toArray, List.set_cons_zero, List.set_cons_succ, i64_w, i32_w]
                    rfl
                  refine pure_ (i := 16) (N := some 34) (v := ?_) (a' := ?_) #[true, true, true, true, true, true, true, true, true, true, true, true, true, true, true, true, true, false, false, false, false, false, false, false, false, false, false, false, false, false, false, false, false, false, false, false, false, false, false] rfl rfl (any_of HT_.out (by kernel_rfl)) (fun _ _ _ h => h) (Or.inl ⟨by rfl, ?_⟩) ?_ ?_
                  rotate_left
                  · intro w'
                    go_simp
                    with_reducible rfl
                  rotate_left
                  · simp only [Act.put, List.setIfInBounds_toArray, List.set_cons_zero, List.set_cons_succ, i64_w, i32_w]
                    rfl
                  refine pure_ (i := 17) (N := some 35) (v := ?_) (a' := ?_) #[true, true, true, true, true, true, true, true, true, true, true, true, true, true, true, true, true, true, false, false, false, false, false, false, false, false, false, false, false, false, false, false, false, false, false, false, false, false, false] rfl rfl (any_of HT_.out (by kernel_rfl)) (fun _ _ _ h => h) (Or.inl ⟨by rfl, ?_⟩) ?_ ?_
                  rotate_left
                  · intro w'
                    go_simp
                    with_reducible rfl
                  rotate_left
                  · simp only [Act.put, List.setIfInBounds_toArray, List.set_cons_zero, List.set_cons_succ, i64_w, i32_w]
                    rfl
                  refine pure_ (i := 18) (N := some 36) (v := ?_) (a' := ?_) #[true, true, true, true, true, true, true, true, true, true, true, true, true, true, true, true, true, true, true, false, false, false, false, false, false, false, false, false, false, false, false, false, false, false, false, false, false, false, false] rfl rfl (any_of HT_.out (by kernel_rfl)) (fun _ _ _ h => h) (Or.inl ⟨by rfl, ?_⟩) ?_ ?_
                  rotate_left
                  · intro w'
                    go_simp
                    with_reducible rfl
                  rotate_left
                  · simp only [Act.put, List.setIfInBounds_toArray, List.set_cons_zero, List.set_cons_succ, i64_w, i32_w]
                    rfl
                  refine pure_ (i := 19) (N := some 37) (v := ?_) (a' := ?_) #[true, true, true, true, true, true, true, true, true, true, true, true, true, true, true, true, true, true, true, true, false, false, false, false, false, false, false, false, false, false, false, false, false, false, false, false, false, false, false] rfl rfl (any_of HT_.out (by kernel_rfl)) (fun _ _ _ h => h) (Or.inl ⟨by rfl, ?_⟩) ?_ ?_
                  rotate_left
                  · intro w'
                    go_simp
                    with_reducible rfl
                  rotate_left
                  · simp only [Act.put, List.setIfInBounds_toArray, List.set_cons_zero, List.set_cons_succ, i64_w, i32_w]
                    rfl
                  refine take_ (i := 20) (N := some 38) (v := ?_) (a' := ?_) #[true, true, true, true, true, true, true, true, true, true, true, true, true, true, true, true, true, true, true, true, true, false, false, false, false, false, false, false, false, false, false, false, false, false, false, false, false, false, false] rfl rfl (take_ofW HT_.out HW_.out (by kernel_rfl)) (fun _ _ _ h => h) (Or.inl ⟨by rfl, ?_⟩) hHeld ?_ ?_
                  rotate_left
                  · rintro w' ⟨s0, s1, s2, s3, s4, s5, s6, s7, s8, s9, s10, s11⟩
                    go_simp
                    with_reducible rfl
                  rotate_left
                  · simp only [Act.put, List.setIfInBounds_toArray, List.set_cons_zero, List.set_cons_succ, i64_w, i32_w]
                    rfl
                  refine one_ (i := 21) (N := some 39) #[true, true, true, true, true, true, true, true, true, true, true, true, true, true, true, true, true, true, true, true, true, true, false, false, false, false, false, false, false, false, false, false, false, false, false, false, false, false, false] rfl rfl (one_of HT_.out (by kernel_rfl)) (by decide) (fun K hK => ?_)
                  refine goes_ Try.func65 (by kernel_rfl) rfl #[.slice A142_3 ((rd_T112 l0 x3_1).f3).length c142_3] (by rfl) rfl rfl (by (try simp only [List.map_toArray, List.map_cons, List.map_nil]); first | done | rfl | (simp only [List.length_drop, List.length_take]; rfl)) ?_
                  with_reducible refine (spec_l01Ok.calls k1 _ _ ((rd_T112 l0 x3_1).f3) false _ ?side1 ?side2 A10.out).mono ?_
                  (case side1 => repeat (first | exact (Kd.C_below HR146_3.out (by repeat (first | (with_reducible first | exact HB.out | apply below_alloc | apply pw_below_drewN | apply below_drew1) | exact HB.out))) | (with_reducible refine Kd.C_alloc ?_ _) | (with_reducible refine Kd.C_drewN ?_ _) | (with_reducible refine Kd.C_drew ?_)))
                  (case side2 => exact HC146_3.out)
                  rintro e w' ⟨rfl, ⟨nd, rfl⟩⟩
                  refine ⟨_, rfl, ?_⟩
                  refine hK.out _ _ ⟨(by first | exact ((HB.out.cell (World.block_lt_of_cell? w _ hw142_0)).trans hw142_0) | exact ((HB.out.cell (World.block_lt_of_cell? w _ hv142_0)).trans hv142_0) | exact hx142_0), (by first | exact ((HB.out.cell (World.block_lt_of_cell? w _ hw142_1)).trans hw142_1) | exact ((HB.out.cell (World.block_lt_of_cell? w _ hv142_1)).trans hv142_1) | exact hx142_1), (by first | exact ((HB.out.cell (World.block_lt_of_cell? w _ hw142_2)).trans hw142_2) | exact ((HB.out.cell (World.block_lt_of_cell? w _ hv142_2)).trans hv142_2) | exact hx142_2), (by first | exact ((HB.out.cell (World.block_lt_of_cell? w _ hw142_3)).trans hw142_3) | exact ((HB.out.cell (World.block_lt_of_cell? w _ hv142_3)).trans hv142_3) | exact hx142_3), (by first | exact ((HB.out.cell (World.block_lt_of_cell? w _ hw144_0)).trans hw144_0) | exact ((HB.out.cell (World.block_lt_of_cell? w _ hv144_0)).trans hv144_0) | exact hx144_0), (by first | exact ((HB.out.cell (World.block_lt_of_cell? w _ hw144_1)).trans hw144_1) | exact ((HB.out.cell (World.block_lt_of_cell? w _ hv144_1)).trans hv144_1) | exact hx144_1), (by first | exact ((HB.out.cell (World.block_lt_of_cell? w _ hw144_2)).trans hw144_2) | exact ((HB.out.cell (World.block_lt_of_cell? w _ hv144_2)).trans hv144_2) | exact hx144_2), (by first | exact ((HB.out.cell (World.block_lt_of_cell? w _ hw144_3)).trans hw144_3) | exact ((HB.out.cell (World.block_lt_of_cell? w _ hv144_3)).trans hv144_3) | exact hx144_3), (by first | exact ((HB.out.cell (World.block_lt_of_cell? w _ hw146_0)).trans hw146_0) | exact ((HB.out.cell (World.block_lt_of_cell? w _ hv146_0)).trans hv146_0) | exact hx146_0), (by first | exact ((HB.out.cell (World.block_lt_of_cell? w _ hw146_1)).trans hw146_1) | exact ((HB.out.cell (World.block_lt_of_cell? w _ hv146_1)).trans hv146_1) | exact hx146_1), (by first | exact ((HB.out.cell (World.block_lt_of_cell? w _ hw146_2)).trans hw146_2) | exact ((HB.out.cell (World.block_lt_of_cell? w _ hv146_2)).trans hv146_2) | exact hx146_2), (by first | exact ((HB.out.cell (World.block_lt_of_cell? w _ hw146_3)).trans hw146_3) | exact ((HB.out.cell (World.block_lt_of_cell? w _ hv146_3)).trans hv146_3) | exact hx146_3)⟩ (fun hHeld => ?_)
                  clear hK K
                  refine norm_ (a' := ?_) ?_ ?_
                  rotate_left
                  · show Act.put _ (some 39) _ = _
                    simp only [Act.put, List.setIfInBounds_toArray, List.set_cons_zero, List.set_cons_succ, i64_w, i32_w]
                    rfl
                  refine pure_ (i := 22) (N := some 40) (v := ?_) (a' := ?_) #[true, true, true, true, true, true, true, true, true, true, true, true, true, true, true, true, true, true, true, true, true, true, true, false, false, false, false, false, false, false, false, false, false, false, false, false, false, false, false] rfl rfl (any_of HT_.out (by kernel_rfl)) (fun _ _ _ h => h) (Or.inl ⟨by rfl, ?_⟩) ?_ ?_
                  rotate_left
                  · intro w'
                    go_simp
                    with_reducible rfl
                  rotate_left
                  · simp only [Act.put, List.setIfInBounds_toArray, List.set_cons_zero, List.set_cons_succ, i64_w, i32_w]
                    rfl
                  refine pure_ (i := 23) (N := some 41) (v := ?_) (a' := ?_) #[true, true, true, true, true, true, true, true, true, true, true, true, true, true, true, true, true, true, true, true, true, true, true, true, false, false, false, false, false, false, false, false, false, false, false, false, false, false, false] rfl rfl (any_of HT_.out (by kernel_rfl)) (fun _ _ _ h => h) (Or.inl ⟨by rfl, ?_⟩) ?_ ?_
                  rotate_left
                  · intro w'
                    go_simp
                    with_reducible rfl
                  rotate_left
                  · simp only [Act.put, List.setIfInBounds_toArray, List.set_cons_zero, List.set_cons_succ, i64_w, i32_w]
                    rfl
                  refine pure_ (i := 24) (N := some 42) (v := ?_) (a' := ?_) #[true, true, true, true, true, true, true, true, true, true, true, true, true, true, true, true, true, true, true, true, true, true, true, true, true, false, false, false, false, false, false, false, false, false, false, false, false, false, false] rfl rfl (any_of HT_.out (by kernel_rfl)) (fun _ _ _ h => h) (Or.inl ⟨by rfl, ?_⟩) ?_ ?_
                  rotate_left
                  · intro w'
                    go_simp
                    with_reducible rfl
                  rotate_left
                  · simp only [Act.put, List.setIfInBounds_toArray, List.set_cons_zero, List.set_cons_succ, i64_w, i32_w]
                    rfl
                  refine pure_ (i := 25) (N := some 43) (v := undef) (a' := ?_) #[true, true, true, true, true, true, true, true, true, true, true, true, true, true, true, true, true, true, true, true, true, true, true, true, true, true, false, false, false, false, false, false, false, false, false, false, false, false, false] rfl rfl (any_of HT_.out (by kernel_rfl)) (fun _ _ _ h => h) (Or.inr ⟨by rfl, rfl⟩) ?_ ?_
                  rotate_left
                  · simp only [Act.put, List.setIfInBounds_toArray, List.set_cons_zero, List.set_cons_succ, i64_w, i32_w]
                    rfl
                  refine pure_ (i := 26) (N := some 44) (v := undef) (a' := ?_) #[true, true, true, true, true, true, true, true, true, true, true, true, true, true, true, true, true, true, true, true, true, true, true, true, true, true, true, false, false, false, false, false, false, false, false, false, false, false, false] rfl rfl (any_of HT_.out (by kernel_rfl)) (fun _ _ _ h => h) (Or.inr ⟨by rfl, rfl⟩) ?_ ?_
                  rotate_left
                  · simp only [Act.put, List.setIfInBounds_toArray, List.set_cons_zero, List.set_cons_succ, i64_w, i32_w]
                    rfl
                  refine pure_ (i := 27) (N := some 45) (v := undef) (a' := ?_) #[true, true, true, true, true, true, true, true, true, true, true, true, true, true, true, true, true, true, true, true, true, true, true, true, true, true, true, true, false, false, false, false, false, false, false, false, false, false, false] rfl rfl (any_of HT_.out (by kernel_rfl)) (fun _ _ _ h => h) (Or.inr ⟨by rfl, rfl⟩) ?_ ?_
                  rotate_left
                  · simp only [Act.put, List.setIfInBounds_toArray, List.set_cons_zero, List.set_cons_succ, i64_w, i32_w]
                    rfl
                  refine pure_ (i := 28) (N := some 46) (v := undef) (a' := ?_) #[true, true, true, true, true, true, true, true, true, true, true, true, true, true, true, true, true, true, true, true, true, true, true, true, true, true, true, true, true, false, false, false, false, false, false, false, false, false, false] rfl rfl (any_of HT_.out (by kernel_rfl)) (fun _ _ _ h => h) (Or.inr ⟨by rfl, rfl⟩) ?_ ?_
                  rotate_left
                  · simp only [Act.put, List.setIfInBounds_toArray, List.set_cons_zero, List.set_cons_succ, i64_w, i32_w]
                    rfl
                  refine pure_ (i := 29) (N := some 47) (v := undef) (a' := ?_) #[true, true, true, true, true, true, true, true, true, true, true, true, true, true, true, true, true, true, true, true, true, true, true, true, true, true, true, true, true, true, false, false, false, false, false, false, false, false, false] rfl rfl (any_of HT_.out (by kernel_rfl)) (fun _ _ _ h => h) (Or.inr ⟨by rfl, rfl⟩) ?_ ?_
                  rotate_left
                  · simp only [Act.put, List.setIfInBounds_toArray, List.set_cons_zero, List.set_cons_succ, i64_w, i32_w]
                    rfl
                  refine pure_ (i := 30) (N := some 48) (v := undef) (a' := ?_) #[true, true, true, true, true, true, true, true, true, true, true, true, true, true, true, true, true, true, true, true, true, true, true, true, true, true, true, true, true, true, true, false, false, false, false, false, false, false, false] rfl rfl (any_of HT_.out (by kernel_rfl)) (fun _ _ _ h => h) (Or.inr ⟨by rfl, rfl⟩) ?_ ?_
                  rotate_left
                  · simp only [Act.put, List.setIfInBounds_toArray, List.set_cons_zero, List.set_cons_succ, i64_w, i32_w]
                    rfl
                  refine pure_ (i := 31) (N := some 49) (v := undef) (a' := ?_) #[true, true, true, true, true, true, true, true, true, true, true, true, true, true, true, true, true, true, true, true, true, true, true, true, true, true, true, true, true, true, true, true, false, false, false, false, false, false, false] rfl rfl (any_of HT_.out (by kernel_rfl)) (fun _ _ _ h => h) (Or.inr ⟨by rfl, rfl⟩) ?_ ?_
                  rotate_left
                  · simp only [Act.put, List.setIfInBounds_toArray, List.set_cons_zero, List.set_cons_succ, i64_w, i32_w]
                    rfl
                  refine pure_ (i := 32) (N := some 50) (v := undef) (a' := ?_) #[true, true, true, true, true, true, true, true, true, true, true, true, true, true, true, true, true, true, true, true, true, true, true, true, true, true, true, true, true, true, true, true, true, false, false, false, false, false, false] rfl rfl (any_of HT_.out (by kernel_rfl)) (fun _ _ _ h => h) (Or.inr ⟨by rfl, rfl⟩) ?_ ?_
                  rotate_left
                  · simp only [Act.put, List.setIfInBounds_toArray, List.set_cons_zero, List.set_cons_succ, i64_w, i32_w]
                    rfl
                  refine pure_ (i := 33) (N := some 51) (v := undef) (a' := ?_) #[true, true, true, true, true, true, true, true, true, true, true, true, true, true, true, true, true, true, true, true, true, true, true, true, true, true, true, true, true, true, true, true, true, true, false, false, false, false, false] rfl rfl (any_of HT_.out (by kernel_rfl)) (fun _ _ _ h => h) (Or.inr ⟨by rfl, rfl⟩) ?_ ?_
                  rotate_left
                  · simp only [Act.put, List.setIfInBounds_toArray, List.set_cons_zero, List.set_cons_succ, i64_w, i32_w]
                    rfl
                  refine pure_ (i := 34) (N := some 52) (v := undef) (a' := ?_) #[true, true, true, true, true, true, true, true, true, true, true, true, true, true, true, true, true, true, true, true, true, true, true, true, true, true, true, true, true, true, true, true, true, true, true, false, false, false, false] rfl rfl (any_of HT_.out (by kernel_rfl)) (fun _ _ _ h => h) (Or.inr ⟨by rfl, rfl⟩) ?_ ?_
                  rotate_left
                  · simp only [Act.put, List.setIfInBounds_toArray, List.set_cons_zero, List.set_cons_succ, i64_w, i32_w]
                    rfl
                  refine pure_ (i := 35) (N := some 53) (v := undef) (a' := ?_) #[true, true, true, true, true, true, true, true, true, true, true, true, true, true, true, true, true, true, true, true, true, true, true, true, true, true, true, true, true, true, true, true, true, true, true, true, false, false, false] rfl rfl (any_of HT_.out (by kernel_rfl)) (fun _ _ _ h => h) (Or.inr ⟨by rfl, rfl⟩) ?_ ?_
                  rotate_left
                  · simp only [Act.put, List.setIfInBounds_toArray, List.set_cons_zero, List.set_cons_succ, i64_w, i32_w]
                    rfl
                  refine pure_ (i := 36) (N := some 54) (v := undef) (a' := ?_) #[true, true, true, true, true, true, true, true, true, true, true, true, true, true, true, true, true, true, true, true, true, true, true, true, true, true, true, true, true, true, true, true, true, true, true, true, true, false, false] rfl rfl (any_of HT_.out (by kernel_rfl)) (fun _ _ _ h => h) (Or.inr ⟨by rfl, rfl⟩) ?_ ?_
                  rotate_left
                  · simp only [Act.put, List.setIfInBounds_toArray, List.set_cons_zero, List.set_cons_succ, i64_w, i32_w]
                    rfl
                  refine pure_ (i := 37) (N := some 55) (v := undef) (a' := ?_) #[true, true, true, true, true, true, true, true, true, true, true, true, true, true, true, true, true, true, true, true, true, true, true, true, true, true, true, true, true, true, true, true, true, true, true, true, true, true, false] rfl rfl (any_of HT_.out (by kernel_rfl)) (fun _ _ _ h => h) (Or.inr ⟨by rfl, rfl⟩) ?_ ?_
                  rotate_left
                  · simp only [Act.put, List.setIfInBounds_toArray, List.set_cons_zero, List.set_cons_succ, i64_w, i32_w]
                    rfl
                  refine pure_ (i := 38) (N := some 56) (v := ?_) (a' := ?_) #[true, true, true, true, true, true, true, true, true, true, true, true, true, true, true, true, true, true, true, true, true, true, true, true, true, true, true, true, true, true, true, true, true, true, true, true, true, true, true] rfl rfl (any_of HT_.out (by kernel_rfl)) (fun _ _ _ h => h) (Or.inl ⟨by rfl, ?_⟩) ?_ ?_
                  rotate_left
                  · intro w'
                    go_simp
                    with_reducible rfl
                  rotate_left
                  · simp only [Act.put, List.setIfInBounds_toArray, List.set_cons_zero, List.set_cons_succ, i64_w, i32_w]
                    rfl
                  refine done_ (done_of HT_.out (by kernel_rfl)) ?_
                  try go_wp2
                  go_ret
                  exact ⟨by first | rfl | (simp [errW_none, errW_some] <;> rfl) | (simp [*, errW_none, errW_some] <;> rfl), by repeat (first | (with_reducible first | exact HB.out | apply below_alloc | apply pw_below_drewN | apply below_drew1) | exact HB.out)⟩
              · replace c9 := Bool.eq_false_iff.mpr c9
                subst c9
                have H1 : (some false) = some r := by rw [if_neg (show ¬ (false = true) by decide)] at H; exact H
                clear H
                have H := H1
                clear H1
                obtain rfl := Option.some.inj H
                have p141 : 0 ≤ (x3_1 : Int) := of_decide_eq_true (by first | (with_reducible assumption) | assumption)
                have q141 : x3_1 < (l0.length : Int) := of_decide_eq_true (by first | (with_reducible assumption) | assumption)
                obtain ⟨ad141, A141_3, c141_3, e141, hx141_0, hx141_1, hx141_2, hx141_3, hl141_3, hi141_3⟩ := at_T112 HR0.out x3_1 p141 q141
                cases e141
                replace hx141_0 := (HB.out.cell (World.block_lt_of_cell? w _ hx141_0)).trans hx141_0
                replace hx141_1 := (HB.out.cell (World.block_lt_of_cell? w _ hx141_1)).trans hx141_1
                replace hx141_2 := (HB.out.cell (World.block_lt_of_cell? w _ hx141_2)).trans hx141_2
                replace hx141_3 := (HB.out.cell (World.block_lt_of_cell? w _ hx141_3)).trans hx141_3
                have HR141_3 := Aside0.mk hi141_3
                have HC141_3 := Aside0.mk hl141_3
                clear hi141_3 hl141_3
                replace p141 := eq_true p141
                replace q141 := eq_true q141
                try go_wp2
                have n0_ := Aside0.mk (below_drew1 HB.out)
                clear HB
                have HB := n0_
                clear n0_
                have p142 : 0 ≤ (x3_1 : Int) := of_decide_eq_true (by first | (with_reducible assumption) | assumption)
                have q142 : x3_1 < (l0.length : Int) := of_decide_eq_true (by first | (with_reducible assumption) | assumption)
                obtain ⟨ad142, A142_3, c142_3, e142, hx142_0, hx142_1, hx142_2, hx142_3, hl142_3, hi142_3⟩ := at_T112 HR0.out x3_1 p142 q142
                have hw142_3 := hx142_3
                have hw142_2 := hx142_2
                have hw142_1 := hx142_1
                have hw142_0 := hx142_0
                obtain rfl : ad141 = ad142 := (by injection e142)
                replace hx142_0 := (HB.out.cell (World.block_lt_of_cell? w _ hx142_0)).trans hx142_0
                replace hx142_1 := (HB.out.cell (World.block_lt_of_cell? w _ hx142_1)).trans hx142_1
                replace hx142_2 := (HB.out.cell (World.block_lt_of_cell? w _ hx142_2)).trans hx142_2
                replace hx142_3 := (HB.out.cell (World.block_lt_of_cell? w _ hx142_3)).trans hx142_3
                have HR142_3 := Aside0.mk hi142_3
                have HC142_3 := Aside0.mk hl142_3
                clear hi142_3 hl142_3
                replace p142 := eq_true p142
                replace q142 := eq_true q142
                have p144 : 0 ≤ (x3_1 : Int) := of_decide_eq_true (by first | (with_reducible assumption) | assumption)
                have q144 : x3_1 < (l0.length : Int) := of_decide_eq_true (by first | (with_reducible assumption) | assumption)
                obtain ⟨ad144, A144_3, c144_3, e144, hx144_0, hx144_1, hx144_2, hx144_3, hl144_3, hi144_3⟩ := at_T112 HR0.out x3_1 p144 q144
                have hw144_3 := hx144_3
                have hw144_2 := hx144_2
                have hw144_1 := hx144_1
                have hw144_0 := hx144_0
                obtain rfl : ad141 = ad144 := (by injection e144)
                replace hx144_0 := (HB.out.cell (World.block_lt_of_cell? w _ hx144_0)).trans hx144_0
                replace hx144_1 := (HB.out.cell (World.block_lt_of_cell? w _ hx144_1)).trans hx144_1
                replace hx144_2 := (HB.out.cell (World.block_lt_of_cell? w _ hx144_2)).trans hx144_2
                replace hx144_3 := (HB.out.cell (World.block_lt_of_cell? w _ hx144_3)).trans hx144_3
                have HR144_3 := Aside0.mk hi144_3
                have HC144_3 := Aside0.mk hl144_3
                clear hi144_3 hl144_3
                replace p144 := eq_true p144
                replace q144 := eq_true q144
                have ea_ := Option.some.inj (hx142_3.symm.trans hx144_3)
                injection ea_ with ea_ en_ ec_
                subst ea_
                subst ec_
                clear en_
                refine start_ (n := 39) (S := fun w' => w'.cell? (ad141.add ((x3_1).toNat * 4)) = some (.int .i16 ((rd_T112 l0 x3_1).f0)) ∧ w'.cell? ⟨(ad141.add ((x3_1).toNat * 4)).block, (ad141.add ((x3_1).toNat * 4)).off + 1, none⟩ = some (.int .i16 ((rd_T112 l0 x3_1).f1)) ∧ w'.cell? ⟨(ad141.add ((x3_1).toNat * 4)).block, (ad141.add ((x3_1).toNat * 4)).off + 2, none⟩ = some (.int .i16 ((rd_T112 l0 x3_1).f2)) ∧ w'.cell? ⟨(ad141.add ((x3_1).toNat * 4)).block, (ad141.add ((x3_1).toNat * 4)).off + 3, none⟩ = some (.slice A142_3 ((rd_T112 l0 x3_1).f3).length c142_3) ∧ w'.cell? (ad141.add ((x3_1).toNat * 4)) = some (.int .i16 ((rd_T112 l0 x3_1).f0)) ∧ w'.cell? ⟨(ad141.add ((x3_1).toNat * 4)).block, (ad141.add ((x3_1).toNat * 4)).off + 1, none⟩ = some (.int .i16 ((rd_T112 l0 x3_1).f1)) ∧ w'.cell? ⟨(ad141.add ((x3_1).toNat * 4)).block, (ad141.add ((x3_1).toNat * 4)).off + 2, none⟩ = some (.int .i16 ((rd_T112 l0 x3_1).f2)) ∧ w'.cell? ⟨(ad141.add ((x3_1).toNat * 4)).block, (ad141.add ((x3_1).toNat * 4)).off + 3, none⟩ = some (.slice A142_3 ((rd_T112 l0 x3_1).f3).length c142_3)) (ds := []) #[false, false, false, false, false, false, false, false, false, false, false, false, false, false, false, false, false, false, false, false, false, false, false, false, false, false, false, false, false, false, false, false, false, false, false, false, false, false, false] (by kernel_rfl) rfl rfl ⟨(by first | exact ((HB.out.cell (World.block_lt_of_cell? w _ hw142_0)).trans hw142_0) | exact ((HB.out.cell (World.block_lt_of_cell? w _ hv142_0)).trans hv142_0) | exact hx142_0), (by first | exact ((HB.out.cell (World.block_lt_of_cell? w _ hw142_1)).trans hw142_1) | exact ((HB.out.cell (World.block_lt_of_cell? w _ hv142_1)).trans hv142_1) | exact hx142_1), (by first | exact ((HB.out.cell (World.block_lt_of_cell? w _ hw142_2)).trans hw142_2) | exact ((HB.out.cell (World.block_lt_of_cell? w _ hv142_2)).trans hv142_2) | exact hx142_2), (by first | exact ((HB.out.cell (World.block_lt_of_cell? w _ hw142_3)).trans hw142_3) | exact ((HB.out.cell (World.block_lt_of_cell? w _ hv142_3)).trans hv142_3) | exact hx142_3), (by first | exact ((HB.out.cell (World.block_lt_of_cell? w _ hw144_0)).trans hw144_0) | exact ((HB.out.cell (World.block_lt_of_cell? w _ hv144_0)).trans hv144_0) | exact hx144_0), (by first | exact ((HB.out.cell (World.block_lt_of_cell? w _ hw144_1)).trans hw144_1) | exact ((HB.out.cell (World.block_lt_of_cell? w _ hv144_1)).trans hv144_1) | exact hx144_1), (by first | exact ((HB.out.cell (World.block_lt_of_cell? w _ hw144_2)).trans hw144_2) | exact ((HB.out.cell (World.block_lt_of_cell? w _ hv144_2)).trans hv144_2) | exact hx144_2), (by first | exact ((HB.out.cell (World.block_lt_of_cell? w _ hw144_3)).trans hw144_3) | exact ((HB.out.cell (World.block_lt_of_cell? w _ hv144_3)).trans hv144_3) | exact hx144_3)⟩ (fun hHeld => ?_); refine with_tabW spec_l04Ok.tab7 spec_l04Ok.bits7 (fun HT_ HW_ => ?_)
                generalize wr.drew = w17 at HB HR142_3 HR144_3 hx142_0 hx142_1 hx142_2 hx142_3 hx144_0 hx144_1 hx144_2 hx144_3 hHeld ⊢
                refine pure_ (i := 0) (N := some 18) (v := ?_) (a' := ?_) #[true, false, false, false, false, false, false, false, false, false, false, false, false, false, false, false, false, false, false, false, false, false, false, false, false, false, false, false, false, false, false, false, false, false, false, false, false, false, false] rfl rfl (any_of HT_.out (by kernel_rfl)) (fun _ _ _ h => h) (Or.inl ⟨by rfl, ?_⟩) ?_ ?_
                rotate_left
                · intro w'
                  go_simp
                  with_reducible rfl
                rotate_left
                · simp only [Act.put, List.setIfInBounds_toArray, List.set_cons_zero, List.set_cons_succ, i64_w, i32_w]
                  rfl
                refine pure_ (i := 1) (N := some 19) (v := ?_) (a' := ?_) #[true, true, false, false, false, false, false, false, false, false, false, false, false, false, false, false, false, false, false, false, false, false, false, false, false, false, false, false, false, false, false, false, false, false, false, false, false, false, false] rfl rfl (any_of HT_.out (by kernel_rfl)) (fun _ _ _ h => h) (Or.inl ⟨by rfl, ?_⟩) ?_ ?_
                rotate_left
                · intro w'
                  go_simp
                  with_reducible rfl
                rotate_left
                · simp only [Act.put, List.setIfInBounds_toArray, List.set_cons_zero, List.set_cons_succ, i64_w, i32_w]
                  rfl
                refine pure_ (i := 2) (N := some 20) (v := ?_) (a' := ?_) #[true, true, true, false, false, false, false, false, false, false, false, false, false, false, false, false, false, false, false, false, false, false, false, false, false, false, false, false, false, false, false, false, false, false, false, false, false, false, false] rfl rfl (any_of HT_.out (by kernel_rfl)) (fun _ _ _ h => h) (Or.inl ⟨by rfl, ?_⟩) ?_ ?_
                rotate_left
                · intro w'
                  go_simp
                  with_reducible rfl
                rotate_left
                · simp only [Act.put, List.setIfInBounds_toArray, List.set_cons_zero, List.set_cons_succ, i64_w, i32_w]
                  rfl
                refine take_ (i := 3) (N := some 21) (v := ?_) (a' := ?_) #[true, true, true, true, false, false, false, false, false, false, false, false, false, false, false, false, false, false, false, false, false, false, false, false, false, false, false, false, false, false, false, false, false, false, false, false, false, false, false] rfl rfl (take_ofW HT_.out HW_.out (by kernel_rfl)) (fun _ _ _ h => h) (Or.inl ⟨by rfl, ?_⟩) hHeld ?_ ?_
                rotate_left
                · rintro w' ⟨s0, s1, s2, s3, s4, s5, s6, s7⟩
                  go_simp
                  with_reducible rfl
                rotate_left
                · simp only [Act.put, List.setIfInBounds_toArray, List.set_cons_zero, List.set_cons_succ, i64_w, i32_w]
                  rfl
                refine pure_ (i := 4) (N := some 22) (v := ?_) (a' := ?_) #[true, true, true, true, true, false, false, false, false, false, false, false, false, false, false, false, false, false, false, false, false, false, false, false, false, false, false, false, false, false, false, false, false, false, false, false, false, false, false] rfl rfl (any_of HT_.out (by kernel_rfl)) (fun _ _ _ h => h) (Or.inl ⟨by rfl, ?_⟩) ?_ ?_
                rotate_left
                · intro w'
                  go_simp
                  with_reducible rfl
                rotate_left
                · simp only [Act.put, List.setIfInBounds_toArray, List.set_cons_zero, List.set_cons_succ, i64_w, i32_w]
                  rfl
                refine one_ (i := 5) (N := some 23) #[true, true, true, true, true, true, false, false, false, false, false, false, false, false, false, false, false, false, false, false, false, false, false, false, false, false, false, false, false, false, false, false, false, false, false, false, false, false, false] rfl rfl (one_of HT_.out (by kernel_rfl)) (by decide) (fun K hK => ?_)
                refine goes_ Try.func71 (by kernel_rfl) rfl #[.int .i64 (wrap64 ((rd_T112 l0 x3_1).f0)), .int .i64 1, .int .i64 60] (by rfl) rfl rfl (by (try simp only [List.map_toArray, List.map_cons, List.map_nil]); first | done | rfl | (simp only [List.length_drop, List.length_take]; rfl)) ?_
                with_reducible refine (spec_l00In.calls (wrap64 ((rd_T112 l0 x3_1).f0)) 1 60 true _ A6.out).mono ?_
                rintro e w' ⟨rfl, ⟨nd, rfl⟩⟩
                refine ⟨_, rfl, ?_⟩
                refine hK.out _ _ ⟨(by first | exact ((HB.out.cell (World.block_lt_of_cell? w _ hw142_0)).trans hw142_0) | exact ((HB.out.cell (World.block_lt_of_cell? w _ hv142_0)).trans hv142_0) | exact hx142_0), (by first | exact ((HB.out.cell (World.block_lt_of_cell? w _ hw142_1)).trans hw142_1) | exact ((HB.out.cell (World.block_lt_of_cell? w _ hv142_1)).trans hv142_1) | exact hx142_1), (by first | exact ((HB.out.cell (World.block_lt_of_cell? w _ hw142_2)).trans hw142_2) | exact ((HB.out.cell (World.block_lt_of_cell? w _ hv142_2)).trans hv142_2) | exact hx142_2), (by first | exact ((HB.out.cell (World.block_lt_of_cell? w _ hw142_3)).trans hw142_3) | exact ((HB.out.cell (World.block_lt_of_cell? w _ hv142_3)).trans hv142_3) | exact hx142_3), (by first | exact ((HB.out.cell (World.block_lt_of_cell? w _ hw144_0)).trans hw144_0) | exact ((HB.out.cell (World.block_lt_of_cell? w _ hv144_0)).trans hv144_0) | exact hx144_0), (by first | exact ((HB.out.cell (World.block_lt_of_cell? w _ hw144_1)).trans hw144_1) | exact ((HB.out.cell (World.block_lt_of_cell? w _ hv144_1)).trans hv144_1) | exact hx144_1), (by first | exact ((HB.out.cell (World.block_lt_of_cell? w _ hw144_2)).trans hw144_2) | exact ((HB.out.cell (World.block_lt_of_cell? w _ hv144_2)).trans hv144_2) | exact hx144_2), (by first | exact ((HB.out.cell (World.block_lt_of_cell? w _ hw144_3)).trans hw144_3) | exact ((HB.out.cell (World.block_lt_of_cell? w _ hv144_3)).trans hv144_3) | exact hx144_3)⟩ (fun hHeld => ?_)
                clear hK K
                refine norm_ (a' := ?_) ?_ ?_
                rotate_left
                · show Act.put _ (some 23) _ = _
                  simp only [Act.put, List.setIfInBounds_toArray, List.set_cons_zero, List.set_cons_succ, i64_w, i32_w]
                  rfl
                refine pure_ (i := 6) (N := some 24) (v := ?_) (a' := ?_) #[true, true, true, true, true, true, true, false, false, false, false, false, false, false, false, false, false, false, false, false, false, false, false, false, false, false, false, false, false, false, false, false, false, false, false, false, false, false, false] rfl rfl (any_of HT_.out (by kernel_rfl)) (fun _ _ _ h => h) (Or.inl ⟨by rfl, ?_⟩) ?_ ?_
                rotate_left
                · intro w'
                  go_simp
                  with_reducible rfl
                rotate_left
                · simp only [Act.put, List.setIfInBounds_toArray, List.set_cons_zero, List.set_cons_succ, i64_w, i32_w]
                  rfl
                refine pure_ (i := 7) (N := some 25) (v := ?_) (a' := ?_) #[true, true, true, true, true, true, true, true, false, false, false, false, false, false, false, false, false, false, false, false, false, false, false, false, false, false, false, false, false, false, false, false, false, false, false, false, false, false, false] rfl rfl (any_of HT_.out (by kernel_rfl)) (fun _ _ _ h => h) (Or.inl ⟨by rfl, ?_⟩) ?_ ?_
                rotate_left
                · intro w'
                  go_simp
                  with_reducible rfl
                rotate_left
                · simp only [Act.put, List.setIfInBounds_toArray, List.set_cons_zero, List.set_cons_succ, i64_w, i32_w]
                  rfl
                refine pure_ (i := 8) (N := some 26) (v := ?_) (a' := ?_) #[true, true, true, true, true, true, true, true, true, false, false, false, false, false, false, false, false, false, false, false, false, false, false, false, false, false, false, false, false, false, false, false, false, false, false, false, false, false, false] rfl rfl (any_of HT_.out (by kernel_rfl)) (fun _ _ _ h => h) (Or.inl ⟨by rfl, ?_⟩) ?_ ?_
                rotate_left
                · intro w'
                  go_simp
                  with_reducible rfl
                rotate_left
                · simp only [Act.put, List.setIfInBounds_toArray, List.set_cons_zero, List.set_cons_succ, i64_w, i32_w]
                  rfl
                refine pure_ (i := 9) (N := some 27) (v := ?_) (a' := ?_) #[true, true, true, true, true, true, true, true, true, true, false, false, false, false, false, false, false, false, false, false, false, false, false, false, false, false, false, false, false, false, false, false, false, false, false, false, false, false, false] rfl rfl (any_of HT_.out (by kernel_rfl)) (fun _ _ _ h => h) (Or.inl ⟨by rfl, ?_⟩) ?_ ?_
                rotate_left
                · intro w'
                  go_simp
                  with_reducible rfl
                rotate_left
                · simp only [Act.put, List.setIfInBounds_toArray, List.set_cons_zero, List.set_cons_succ, i64_w, i32_w]
                  rfl
                refine pure_ (i := 10) (N := some 28) (v := ?_) (a' := ?_) #[true, true, true, true, true, true, true, true, true, true, true, false, false, false, false, false, false, false, false, false, false, false, false, false, false, false, false, false, false, false, false, false, false, false, false, false, false, false, false] rfl rfl (any_of HT_.out (by kernel_rfl)) (fun _ _ _ h => h) (Or.inl ⟨by rfl, ?_⟩) ?_ ?_
                rotate_left
                · intro w'
                  go_simp
                  with_reducible rfl
                rotate_left
                · simp only [Act.put, List.setIfInBounds_toArray, List.set_cons_zero, List.set_cons_succ, i64_w, i32_w]
                  rfl
                refine take_ (i := 11) (N := some 29) (v := ?_) (a' := ?_) #[true, true, true, true, true, true, true, true, true, true, true, true, false, false, false, false, false, false, false, false, false, false, false, false, false, false, false, false, false, false, false, false, false, false, false, false, false, false, false] rfl rfl (take_ofW HT_.out HW_.out (by kernel_rfl)) (fun _ _ _ h => h) (Or.inl ⟨by rfl, ?_⟩) hHeld ?_ ?_
                rotate_left
                · rintro w' ⟨s0, s1, s2, s3, s4, s5, s6, s7⟩
                  go_simp
                  with_reducible rfl
                rotate_left
                · simp only [Act.put, List.setIfInBounds_toArray, List.set_cons_zero, List.set_cons_succ, i64_w, i32_w]
                  rfl
                refine pure_ (i := 12) (N := some 30) (v := ?_) (a' := ?_) #[true, true, true, true, true, true, true, true, true, true, true, true, true, false, false, false, false, false, false, false, false, false, false, false, false, false, false, false, false, false, false, false, false, false, false, false, false, false, false] rfl rfl (any_of HT_.out (by kernel_rfl)) (fun _ _ _ h => h) (Or.inl ⟨by rfl, ?_⟩) ?_ ?_
                rotate_left
                · intro w'
                  go_simp
                  with_reducible rfl
                rotate_left
                · simp only [Act.put, List.setIfInBounds_toArray, List.set_cons_zero, List.set_cons_succ, i64_w, i32_w]
                  rfl
                refine one_ (i := 13) (N := some 31) #[true, true, true, true, true, true, true, true, true, true, true, true, true, true, false, false, false, false, false, false, false, false, false, false, false, false, false, false, false, false, false, false, false, false, false, false, false, false, false] rfl rfl (one_of HT_.out (by kernel_rfl)) (by decide) (fun K hK => ?_)
                refine goes_ Try.func71 (by kernel_rfl) rfl #[.int .i64 (wrap64 ((rd_T112 l0 x3_1).f1)), .int .i64 1, .int .i64 60] (by rfl) rfl rfl (by (try simp only [List.map_toArray, List.map_cons, List.map_nil]); first | done | rfl | (simp only [List.length_drop, List.length_take]; rfl)) ?_
                with_reducible refine (spec_l00In.calls (wrap64 ((rd_T112 l0 x3_1).f1)) 1 60 false _ A8.out).mono ?_
                rintro e w' ⟨rfl, ⟨nd, rfl⟩⟩
                refine ⟨_, rfl, ?_⟩
                refine hK.out _ _ ⟨(by first | exact ((HB.out.cell (World.block_lt_of_cell? w _ hw142_0)).trans hw142_0) | exact ((HB.out.cell (World.block_lt_of_cell? w _ hv142_0)).trans hv142_0) | exact hx142_0), (by first | exact ((HB.out.cell (World.block_lt_of_cell? w _ hw142_1)).trans hw142_1) | exact ((HB.out.cell (World.block_lt_of_cell? w _ hv142_1)).trans hv142_1) | exact hx142_1), (by first | exact ((HB.out.cell (World.block_lt_of_cell? w _ hw142_2)).trans hw142_2) | exact ((HB.out.cell (World.block_lt_of_cell? w _ hv142_2)).trans hv142_2) | exact hx142_2), (by first | exact ((HB.out.cell (World.block_lt_of_cell? w _ hw142_3)).trans hw142_3) | exact ((HB.out.cell (World.block_lt_of_cell? w _ hv142_3)).trans hv142_3) | exact hx142_3), (by first | exact ((HB.out.cell (World.block_lt_of_cell? w _ hw144_0)).trans hw144_0) | exact ((HB.out.cell (World.block_lt_of_cell? w _ hv144_0)).trans hv144_0) | exact hx144_0), (by first | exact ((HB.out.cell (World.block_lt_of_cell? w _ hw144_1)).trans hw144_1) | exact ((HB.out.cell (World.block_lt_of_cell? w _ hv144_1)).trans hv144_1) | exact hx144_1), (by first | exact ((HB.out.cell (World.block_lt_of_cell? w _ hw144_2)).trans hw144_2) | exact ((HB.out.cell (World.block_lt_of_cell? w _ hv144_2)).trans hv144_2) | exact hx144_2), (by first | exact ((HB.out.cell (World.block_lt_of_cell? w _ hw144_3)).trans hw144_3) | exact ((HB.out.cell (World.block_lt_of_cell? w _ hv144_3)).trans hv144_3) | exact hx144_3)⟩ (fun hHeld => ?_)
                clear hK K
                refine norm_ (a' := ?_) ?_ ?_
                rotate_left
                · show Act.put _ (some 31) _ = _
                  simp only [Act.put, List.setIfInBounds_toArray, List.set_cons_zero, List.set_cons_succ, i64_w, i32_w]
                  rfl
                refine pure_ (i := 14) (N := some 32) (v := ?_) (a' := ?_) #[true, true, true, true, true, true, true, true, true, true, true, true, true, true, true, false, false, false, false, false, false, false, false, false, false, false, false, false, false, false, false, false, false, false, false, false, false, false, false] rfl rfl (any_of HT_.out (by kernel_rfl)) (fun _ _ _ h => h) (Or.inl ⟨by rfl, ?_⟩) ?_ ?_
                rotate_left
                · intro w'
                  go_simp
                  with_reducible rfl
                rotate_left
                · simp only [Act.put, List.setIfInBounds_toArray, List.set_cons_zero, List.set_cons_succ, i64_w, i32_w]
                  rfl
                refine pure_ (i := 15) (N := some 33) (v := ?_) (a' := ?_) #[true, true, true, true, true, true, true, true, true, true, true, true, true, true, true, true, false, false, false, false, false, false, false, false, false, false, false, false, false, false, false, false, false, false, false, false, false, false, false] rfl rfl (any_of HT_.out (by kernel_rfl)) (fun _ _ _ h => h) (Or.inl ⟨by rfl, ?_⟩) ?_ ?_
                rotate_left
                · intro w'
                  go_simp
                  with_reducible rfl
                rotate_left
                · simp only [Act.put, List.setIfInBounds_toArray, List.set_cons_zero, List.set_cons_succ, i64_w, i32_w]
                  rfl
                refine pure_ (i := 16) (N := some 34) (v := ?_) (a' := ?_) #[true, true, true, true, true, true, true, true, true, true, true, true, true, true, true, true, true, false, false, false, false, false, false, false, false, false, false, false, false, false, false, false, false, false, false, false, false, false, false] rfl rfl (any_of HT_.out (by kernel_rfl)) (fun _ _ _ h => h) (Or.inl ⟨by rfl, ?_⟩) ?_ ?_
                rotate_left
                · intro w'
                  go_simp
                  with_reducible rfl
                rotate_left
                · simp only [Act.put, List.setIfInBounds_toArray, List.set_cons_zero, List.set_cons_succ, i64_w, i32_w]
                  rfl
                refine pure_ (i := 17) (N := some 35) (v := undef) (a' := ?_) #[true, true, true, true, true, true, true, true, true, true, true, true, true, true, true, true, true, true, false, false, false, false, false, false, false, false, false, false, false, false, false, false, false, false, false, false, false, false, false] rfl rfl (any_of HT_.out (by kernel_rfl)) (fun _ _ _ h => h) (Or.inr ⟨by rfl, rfl⟩) ?_ ?_
                rotate_left
                · simp only [Act.put, List.setIfInBounds_toArray, List.set_cons_zero, List.set_cons_succ, i64_w, i32_w]
                  rfl
                refine pure_ (i := 18) (N := some 36) (v := undef) (a' := ?_) #[true, true, true, true, true, true, true, true, true, true, true, true, true, true, true, true, true, true, true, false, false, false, false, false, false, false, false, false, false, false, false, false, false, false, false, false, false, false, false] rfl rfl (any_of HT_.out (by kernel_rfl)) (fun _ _ _ h => h) (Or.inr ⟨by rfl, rfl⟩) ?_ ?_
                rotate_left
                · simp only [Act.put, List.setIfInBounds_toArray, List.set_cons_zero, List.set_cons_succ, i64_w, i32_w]
                  rfl
                refine pure_ (i := 19) (N := some 37) (v := undef) (a' := ?_) #[true, true, true, true, true, true, true, true, true, true, true, true, true, true, true, true, true, true, true, true, false, false, false, false, false, false, false, false, false, false, false, false, false, false, false, false, false, false, false] rfl rfl (any_of HT_.out (by kernel_rfl)) (fun _ _ _ h => h) (Or.inr ⟨by rfl, rfl⟩) ?_ ?_
                rotate_left
                · simp only [Act.put, List.setIfInBounds_toArray, List.set_cons_zero, List.set_cons_succ, i64_w, i32_w]
                  rfl
                refine pure_ (i := 20) (N := some 38) (v := undef) (a' := ?_) #[true, true, true, true, true, true, true, true, true, true, true, true, true, true, true, true, true, true, true, true, true, false, false, false, false, false, false, false, false, false, false, false, false, false, false, false, false, false, false] rfl rfl (any_of HT_.out (by kernel_rfl)) (fun _ _ _ h => h) (Or.inr ⟨by rfl, rfl⟩) ?_ ?_
                rotate_left
                · simp only [Act.put, List.setIfInBounds_toArray, List.set_cons_zero, List.set_cons_succ, i64_w, i32_w]
                  rfl
                refine pure_ (i := 21) (N := some 39) (v := undef) (a' := ?_) #[true, true, true, true, true, true, true, true, true, true, true, true, true, true, true, true, true, true, true, true, true, true, false, false, false, false, false, false, false, false, false, false, false, false, false, false, false, false, false] rfl rfl (any_of HT_.out (by kernel_rfl)) (fun _ _ _ h => h) (Or.inr ⟨by rfl, rfl⟩) ?_ ?_
                rotate_left
                · simp only [Act.put, List.setIfInBounds_toArray, List.set_cons_zero, List.set_cons_succ, i64_w, i32_w]
                  rfl
                refine pure_ (i := 22) (N := some 40) (v := undef) (a' := ?_) #[true, true, true, true, true, true, true, true, true, true, true, true, true, true, true, true, true, true, true, true, true, true, true, false, false, false, false, false, false, false, false, false, false, false, false, false, false, false, false] rfl rfl (any_of HT_.out (by kernel_rfl)) (fun _ _ _ h => h) (Or.inr ⟨by rfl, rfl⟩) ?_ ?_
                rotate_left
                · simp only [Act.put, List.setIfInBounds_toArray, List.set_cons_zero, List.set_cons_succ, i64_w, i32_w]
                  rfl
                refine pure_ (i := 23) (N := some 41) (v := ?_) (a' := ?_) #[true, true, true, true, true, true, true, true, true, true, true, true, true, true, true, true, true, true, true, true, true, true, true, true, false, false, false, false, false, false, false, false, false, false, false, false, false, false, false] rfl rfl (any_of HT_.out (by kernel_rfl)) (fun _ _ _ h => h) (Or.inl ⟨by rfl, ?_⟩) ?_ ?_
                rotate_left
                · intro w'
                  go_simp
                  with_reducible rfl
                rotate_left
                · simp only [Act.put, List.setIfInBounds_toArray, List.set_cons_zero, List.set_cons_succ, i64_w, i32_w]
                  rfl
                refine pure_ (i := 24) (N := some 42) (v := ?_) (a' := ?_) #[true, true, true, true, true, true, true, true, true, true, true, true, true, true, true, true, true, true, true, true, true, true, true, true, true, false, false, false, false, false, false, false, false, false, false, false, false, false, false] rfl rfl (any_of HT_.out (by kernel_rfl)) (fun _ _ _ h => h) (Or.inl ⟨by rfl, ?_⟩) ?_ ?_
                rotate_left
                · intro w'
                  go_simp
                  with_reducible rfl
                rotate_left
                · simp only [Act.put, List.setIfInBounds_toArray, List.set_cons_zero, List.set_cons_succ, i64_w, i32_w]
                  rfl
                refine pure_ (i := 25) (N := some 43) (v := undef) (a' := ?_) #[true, true, true, true, true, true, true, true, true, true, true, true, true, true, true, true, true, true, true, true, true, true, true, true, true, true, false, false, false, false, false, false, false, false, false, false, false, false, false] rfl rfl (any_of HT_.out (by kernel_rfl)) (fun _ _ _ h => h) (Or.inr ⟨by rfl, rfl⟩) ?_ ?_
                rotate_left
                · simp only [Act.put, List.setIfInBounds_toArray, List.set_cons_zero, List.set_cons_succ, i64_w, i32_w]
                  rfl
                refine pure_ (i := 26) (N := some 44) (v := undef) (a' := ?_) #[true, true, true, true, true, true, true, true, true, true, true, true, true, true, true, true, true, true, true, true, true, true, true, true, true, true, true, false, false, false, false, false, false, false, false, false, false, false, false] rfl rfl (any_of HT_.out (by kernel_rfl)) (fun _ _ _ h => h) (Or.inr ⟨by rfl, rfl⟩) ?_ ?_
                rotate_left
                · simp only [Act.put, List.setIfInBounds_toArray, List.set_cons_zero, List.set_cons_succ, i64_w, i32_w]
                  rfl
                refine pure_ (i := 27) (N := some 45) (v := undef) (a' := ?_) #[true, true, true, true, true, true, true, true, true, true, true, true, true, true, true, true, true, true, true, true, true, true, true, true, true, true, true, true, false, false, false, false, false, false, false, false, false, false, false] rfl rfl (any_of HT_.out (by kernel_rfl)) (fun _ _ _ h => h) (Or.inr ⟨by rfl, rfl⟩) ?_ ?_
                rotate_left
                · simp only [Act.put, List.setIfInBounds_toArray, List.set_cons_zero, List.set_cons_succ, i64_w, i32_w]
                  rfl
                refine pure_ (i := 28) (N := some 46) (v := undef) (a' := ?_) #[true, true, true, true, true, true, true, true, true, true, true, true, true, true, true, true, true, true, true, true, true, true, true, true, true, true, true, true, true, false, false, false, false, false, false, false, false, false, false] rfl rfl (any_of HT_.out (by kernel_rfl)) (fun _ _ _ h => h) (Or.inr ⟨by rfl, rfl⟩) ?_ ?_
                rotate_left
                · simp only [Act.put, List.setIfInBounds_toArray, List.set_cons_zero, List.set_cons_succ, i64_w, i32_w]
                  rfl
                refine pure_ (i := 29) (N := some 47) (v := undef) (a' := ?_) #[true, true, true, true, true, true, true, true, true, true, true, true, true, true, true, true, true, true, true, true, true, true, true, true, true, true, true, true, true, true, false, false, false, false, false, false, false, false, false] rfl rfl (any_of HT_.out (by kernel_rfl)) (fun _ _ _ h => h) (Or.inr ⟨by rfl, rfl⟩) ?_ ?_
                rotate_left
                · simp only [Act.put, List.setIfInBounds_toArray, List.set_cons_zero, List.set_cons_succ, i64_w, i32_w]
                  rfl
                refine pure_ (i := 30) (N := some 48) (v := undef) (a' := ?_) #[true, true, true, true, true, true, true, true, true, true, true, true, true, true, true, true, true, true, true, true, true, true, true, true, true, true, true, true, true, true, true, false, false, false, false, false, false, false, false] rfl rfl (any_of HT_.out (by kernel_rfl)) (fun _ _ _ h => h) (Or.inr ⟨by rfl, rfl⟩) ?_ ?_
                rotate_left
                · simp only [Act.put, List.setIfInBounds_toArray, List.set_cons_zero, List.set_cons_succ, i64_w, i32_w]
                  rfl
                refine pure_ (i := 31) (N := some 49) (v := undef) (a' := ?_) #[true, true, true, true, true, true, true, true, true, true, true, true, true, true, true, true, true, true, true, true, true, true, true, true, true, true, true, true, true, true, true, true, false, false, false, false, false, false, false] rfl rfl (any_of HT_.out (by kernel_rfl)) (fun _ _ _ h => h) (Or.inr ⟨by rfl, rfl⟩) ?_ ?_
                rotate_left
                · simp only [Act.put, List.setIfInBounds_toArray, List.set_cons_zero, List.set_cons_succ, i64_w, i32_w]
                  rfl
                refine pure_ (i := 32) (N := some 50) (v := undef) (a' := ?_) #[true, true, true, true, true, true, true, true, true, true, true, true, true, true, true, true, true, true, true, true, true, true, true, true, true, true, true, true, true, true, true, true, true, false, false, false, false, false, false] rfl rfl (any_of HT_.out (by kernel_rfl)) (fun _ _ _ h => h) (Or.inr ⟨by rfl, rfl⟩) ?_ ?_
                rotate_left
                · simp only [Act.put, List.setIfInBounds_toArray, List.set_cons_zero, List.set_cons_succ, i64_w, i32_w]
                  rfl
                refine pure_ (i := 33) (N := some 51) (v := undef) (a' := ?_) #[true, true, true, true, true, true, true, true, true, true, true, true, true, true, true, true, true, true, true, true, true, true, true, true, true, true, true, true, true, true, true, true, true, true, false, false, false, false, false] rfl rfl (any_of HT_.out (by kernel_rfl)) (fun _ _ _ h => h) (Or.inr ⟨by rfl, rfl⟩) ?_ ?_
                rotate_left
                · simp only [Act.put, List.setIfInBounds_toArray, List.set_cons_zero, List.set_cons_succ, i64_w, i32_w]
                  rfl
                refine pure_ (i := 34) (N := some 52) (v := undef) (a' := ?_) #[true, true, true, true, true, true, true, true, true, true, true, true, true, true, true, true, true, true, true, true, true, true, true, true, true, true, true, true, true, true, true, true, true, true, true, false, false, false, false] rfl rfl (any_of HT_.out (by kernel_rfl)) (fun _ _ _ h => h) (Or.inr ⟨by rfl, rfl⟩) ?_ ?_
                rotate_left
                · simp only [Act.put, List.setIfInBounds_toArray, List.set_cons_zero, List.set_cons_succ, i64_w, i32_w]
                  rfl
                refine pure_ (i := 35) (N := some 53) (v := undef) (a' := ?_) #[true, true, true, true, true, true, true, true, true, true, true, true, true, true, true, true, true, true, true, true, true, true, true, true, true, true, true, true, true, true, true, true, true, true, true, true, false, false, false] rfl rfl (any_of HT_.out (by kernel_rfl)) (fun _ _ _ h => h) (Or.inr ⟨by rfl, rfl⟩) ?_ ?_
                rotate_left
                · simp only [Act.put, List.setIfInBounds_toArray, List.set_cons_zero, List.set_cons_succ, i64_w, i32_w]
                  rfl
                refine pure_ (i := 36) (N := some 54) (v := undef) (a' := ?_) #[true, true, true, true, true, true, true, true, true, true, true, true, true, true, true, true, true, true, true, true, true, true, true, true, true, true, true, true, true, true, true, true, true, true, true, true, true, false, false] rfl rfl (any_of HT_.out (by kernel_rfl)) (fun _ _ _ h => h) (Or.inr ⟨by rfl, rfl⟩) ?_ ?_
                rotate_left
                · simp only [Act.put, List.setIfInBounds_toArray, List.set_cons_zero, List.set_cons_succ, i64_w, i32_w]
                  rfl
                refine pure_ (i := 37) (N := some 55) (v := undef) (a' := ?_) #[true, true, true, true, true, true, true, true, true, true, true, true, true, true, true, true, true, true, true, true, true, true, true, true, true, true, true, true, true, true, true, true, true, true, true, true, true, true, false] rfl rfl (any_of HT_.out (by kernel_rfl)) (fun _ _ _ h => h) (Or.inr ⟨by rfl, rfl⟩) ?_ ?_
                rotate_left
                · simp only [Act.put, List.setIfInBounds_toArray, List.set_cons_zero, List.set_cons_succ, i64_w, i32_w]
                  rfl
                refine pure_ (i := 38) (N := some 56) (v := ?_) (a' := ?_) #[true, true, true, true, true, true, true, true, true, true, true, true, true, true, true, true, true, true, true, true, true, true, true, true, true, true, true, true, true, true, true, true, true, true, true, true, true, true, true] rfl rfl (any_of HT_.out (by kernel_rfl)) (fun _ _ _ h => h) (Or.inl ⟨by rfl, ?_⟩) ?_ ?_
                rotate_left
                · intro w'
                  go_simp
                  with_reducible rfl
                rotate_left
                · simp only [Act.put, List.setIfInBounds_toArray, List.set_cons_zero, List.set_cons_succ, i64_w, i32_w]
                  rfl
                refine done_ (done_of HT_.out (by kernel_rfl)) ?_
                try go_wp2
                go_ret
                exact ⟨by first | rfl | (simp [errW_none, errW_some] <;> rfl) | (simp [*, errW_none, errW_some] <;> rfl), by repeat (first | (with_reducible first | exact HB.out | apply below_alloc | apply pw_below_drewN | apply below_drew1) | exact HB.out)⟩
            · replace c7 := Bool.eq_false_iff.mpr c7
              subst c7
              have H1 : (some false) = some r := by rw [if_neg (show ¬ (false = true) by decide)] at H; exact H
              clear H
              have H := H1
              clear H1
              obtain rfl := Option.some.inj H
              have p141 : 0 ≤ (x3_1 : Int) := of_decide_eq_true (by first | (with_reducible assumption) | assumption)
              have q141 : x3_1 < (l0.length : Int) := of_decide_eq_true (by first | (with_reducible assumption) | assumption)
              obtain ⟨ad141, A141_3, c141_3, e141, hx141_0, hx141_1, hx141_2, hx141_3, hl141_3, hi141_3⟩ := at_T112 HR0.out x3_1 p141 q141
              cases e141
              replace hx141_0 := (HB.out.cell (World.block_lt_of_cell? w _ hx141_0)).trans hx141_0
              replace hx141_1 := (HB.out.cell (World.block_lt_of_cell? w _ hx141_1)).trans hx141_1
              replace hx141_2 := (HB.out.cell (World.block_lt_of_cell? w _ hx141_2)).trans hx141_2
              replace hx141_3 := (HB.out.cell (World.block_lt_of_cell? w _ hx141_3)).trans hx141_3
              have HR141_3 := Aside0.mk hi141_3
              have HC141_3 := Aside0.mk hl141_3
              clear hi141_3 hl141_3
              replace p141 := eq_true p141
              replace q141 := eq_true q141
              try go_wp2
              have n0_ := Aside0.mk (below_drew1 HB.out)
              clear HB
              have HB := n0_
              clear n0_
              have p142 : 0 ≤ (x3_1 : Int) := of_decide_eq_true (by first | (with_reducible assumption) | assumption)
              have q142 : x3_1 < (l0.length : Int) := of_decide_eq_true (by first | (with_reducible assumption) | assumption)
              obtain ⟨ad142, A142_3, c142_3, e142, hx142_0, hx142_1, hx142_2, hx142_3, hl142_3, hi142_3⟩ := at_T112 HR0.out x3_1 p142 q142
              have hw142_3 := hx142_3
              have hw142_2 := hx142_2
              have hw142_1 := hx142_1
              have hw142_0 := hx142_0
              obtain rfl : ad141 = ad142 := (by injection e142)
              replace hx142_0 := (HB.out.cell (World.block_lt_of_cell? w _ hx142_0)).trans hx142_0
              replace hx142_1 := (HB.out.cell (World.block_lt_of_cell? w _ hx142_1)).trans hx142_1
              replace hx142_2 := (HB.out.cell (World.block_lt_of_cell? w _ hx142_2)).trans hx142_2
              replace hx142_3 := (HB.out.cell (World.block_lt_of_cell? w _ hx142_3)).trans hx142_3
              have HR142_3 := Aside0.mk hi142_3
              have HC142_3 := Aside0.mk hl142_3
              clear hi142_3 hl142_3
              replace p142 := eq_true p142
              replace q142 := eq_true q142
              refine start_ (n := 39) (S := fun w' => w'.cell? (ad141.add ((x3_1).toNat * 4)) = some (.int .i16 ((rd_T112 l0 x3_1).f0)) ∧ w'.cell? ⟨(ad141.add ((x3_1).toNat * 4)).block, (ad141.add ((x3_1).toNat * 4)).off + 1, none⟩ = some (.int .i16 ((rd_T112 l0 x3_1).f1)) ∧ w'.cell? ⟨(ad141.add ((x3_1).toNat * 4)).block, (ad141.add ((x3_1).toNat * 4)).off + 2, none⟩ = some (.int .i16 ((rd_T112 l0 x3_1).f2)) ∧ w'.cell? ⟨(ad141.add ((x3_1).toNat * 4)).block, (ad141.add ((x3_1).toNat * 4)).off + 3, none⟩ = some (.slice A142_3 ((rd_T112 l0 x3_1).f3).length c142_3)) (ds := []) #[false, false, false, false, false, false, false, false, false, false, false, false, false, false, false, false, false, false, false, false, false, false, false, false, false, false, false, false, false, false, false, false, false, false, false, false, false, false, false] (by kernel_rfl) rfl rfl ⟨(by first | exact ((HB.out.cell (World.block_lt_of_cell? w _ hw142_0)).trans hw142_0) | exact ((HB.out.cell (World.block_lt_of_cell? w _ hv142_0)).trans hv142_0) | exact hx142_0), (by first | exact ((HB.out.cell (World.block_lt_of_cell? w _ hw142_1)).trans hw142_1) | exact ((HB.out.cell (World.block_lt_of_cell? w _ hv142_1)).trans hv142_1) | exact hx142_1), (by first | exact ((HB.out.cell (World.block_lt_of_cell? w _ hw142_2)).trans hw142_2) | exact ((HB.out.cell (World.block_lt_of_cell? w _ hv142_2)).trans hv142_2) | exact hx142_2), (by first | exact ((HB.out.cell (World.block_lt_of_cell? w _ hw142_3)).trans hw142_3) | exact ((HB.out.cell (World.block_lt_of_cell? w _ hv142_3)).trans hv142_3) | exact hx142_3)⟩ (fun hHeld => ?_); refine with_tabW spec_l04Ok.tab7 spec_l04Ok.bits7 (fun HT_ HW_ => ?_)
              generalize wr.drew = w18 at HB HR142_3 hx142_0 hx142_1 hx142_2 hx142_3 hHeld ⊢
              refine pure_ (i := 0) (N := some 18) (v := ?_) (a' := ?_) #[true, false, false, false, false, false, false, false, false, false, false, false, false, false, false, false, false, false, false, false, false, false, false, false, false, false, false, false, false, false, false, false, false, false, false, false, false, false, false] rfl rfl (any_of HT_.out (by kernel_rfl)) (fun _ _ _ h => h) (Or.inl ⟨by rfl, ?_⟩) ?_ ?_
              rotate_left
              · intro w'
                go_simp
                with_reducible rfl
              rotate_left
              · simp only [Act.put, List.setIfInBounds_toArray, List.set_cons_zero, List.set_cons_succ, i64_w, i32_w]
                rfl
              refine pure_ (i := 1) (N := some 19) (v := ?_) (a' := ?_) #[true, true, false, false, false, false, false, false, false, false, false, false, false, false, false, false, false, false, false, false, false, false, false, false, false, false, false, false, false, false, false, false, false, false, false, false, false, false, false] rfl rfl (any_of HT_.out (by kernel_rfl)) (fun _ _ _ h => h) (Or.inl ⟨by rfl, ?_⟩) ?_ ?_
              rotate_left
              · intro w'
                go_simp
                with_reducible rfl
              rotate_left
              · simp only [Act.put, List.setIfInBounds_toArray, List.set_cons_zero, List.set_cons_succ, i64_w, i32_w]
                rfl
              refine pure_ (i := 2) (N := some 20) (v := ?_) (a' := ?_) #[true, true, true, false, false, false, false, false, false, false, false, false, false, false, false, false, false, false, false, false, false, false, false, false, false, false, false, false, false, false, false, false, false, false, false, false, false, false, false] rfl rfl (any_of HT_.out (by kernel_rfl)) (fun _ _ _ h => h) (Or.inl ⟨by rfl, ?_⟩) ?_ ?_
              rotate_left
              · intro w'
                go_simp
                with_reducible rfl
              rotate_left
              · simp only [Act.put, List.setIfInBounds_toArray, List.set_cons_zero, List.set_cons_succ, i64_w, i32_w]
                rfl
              refine take_ (i := 3) (N := some 21) (v := ?_) (a' := ?_) #[true, true, true, true, false, false, false, false, false, false, false, false, false, false, false, false, false, false, false, false, false, false, false, false, false, false, false, false, false, false, false, false, false, false, false, false, false, false, false] rfl rfl (take_ofW HT_.out HW_.out (by kernel_rfl)) (fun _ _ _ h => h) (Or.inl ⟨by rfl, ?_⟩) hHeld ?_ ?_
              rotate_left
              · rintro w' ⟨s0, s1, s2, s3⟩
                go_simp
                with_reducible rfl
              rotate_left
              · simp only [Act.put, List.setIfInBounds_toArray, List.set_cons_zero, List.set_cons_succ, i64_w, i32_w]
                rfl
              refine pure_ (i := 4) (N := some 22) (v := ?_) (a' := ?_) #[true, true, true, true, true, false, false, false, false, false, false, false, false, false, false, false, false, false, false, false, false, false, false, false, false, false, false, false, false, false, false, false, false, false, false, false, false, false, false] rfl rfl (any_of HT_.out (by kernel_rfl)) (fun _ _ _ h => h) (Or.inl ⟨by rfl, ?_⟩) ?_ ?_
              rotate_left
              · intro w'
                go_simp
                with_reducible rfl
              rotate_left
              · simp only [Act.put, List.setIfInBounds_toArray, List.set_cons_zero, List.set_cons_succ, i64_w, i32_w]
                rfl
              refine one_ (i := 5) (N := some 23) #[true, true, true, true, true, true, false, false, false, false, false, false, false, false, false, false, false, false, false, false, false, false, false, false, false, false, false, false, false, false, false, false, false, false, false, false, false, false, false] rfl rfl (one_of HT_.out (by kernel_rfl)) (by decide) (fun K hK => ?_)
              refine goes_ Try.func71 (by kernel_rfl) rfl #[.int .i64 (wrap64 ((rd_T112 l0 x3_1).f0)), .int .i64 1, .int .i64 60] (by rfl) rfl rfl (by (try simp only [List.map_toArray, List.map_cons, List.map_nil]); first | done | rfl | (simp only [List.length_drop, List.length_take]; rfl)) ?_
              with_reducible refine (spec_l00In.calls (wrap64 ((rd_T112 l0 x3_1).f0)) 1 60 false _ A6.out).mono ?_
              rintro e w' ⟨rfl, ⟨nd, rfl⟩⟩
              refine ⟨_, rfl, ?_⟩
              refine hK.out _ _ ⟨(by first | exact ((HB.out.cell (World.block_lt_of_cell? w _ hw142_0)).trans hw142_0) | exact ((HB.out.cell (World.block_lt_of_cell? w _ hv142_0)).trans hv142_0) | exact hx142_0), (by first | exact ((HB.out.cell (World.block_lt_of_cell? w _ hw142_1)).trans hw142_1) | exact ((HB.out.cell (World.block_lt_of_cell? w _ hv142_1)).trans hv142_1) | exact hx142_1), (by first | exact ((HB.out.cell (World.block_lt_of_cell? w _ hw142_2)).trans hw142_2) | exact ((HB.out.cell (World.block_lt_of_cell? w _ hv142_2)).trans hv142_2) | exact hx142_2), (by first | exact ((HB.out.cell (World.block_lt_of_cell? w _ hw142_3)).trans hw142_3) | exact ((HB.out.cell (World.block_lt_of_cell? w _ hv142_3)).trans hv142_3) | exact hx142_3)⟩ (fun hHeld => ?_)
              clear hK K
              refine norm_ (a' := ?_) ?_ ?_
              rotate_left
              · show Act.put _ (some 23) _ = _
                simp only [Act.put, List.setIfInBounds_toArray, List.set_cons_zero, List.set_cons_succ, i64_w, i32_w]
                rfl
              refine pure_ (i := 6) (N := some 24) (v := ?_) (a' := ?_) #[true, true, true, true, true, true, true, false, false, false, false, false, false, false, false, false, false, false, false, false, false, false, false, false, false, false, false, false, false, false, false, false, false, false, false, false, false, false, false] rfl rfl (any_of HT_.out (by kernel_rfl)) (fun _ _ _ h => h) (Or.inl ⟨by rfl, ?_⟩) ?_ ?_
              rotate_left
              · intro w'
                go_simp
                with_reducible rfl
              rotate_left
              · simp only [Act.put, List.setIfInBounds_toArray, List.set_cons_zero, List.set_cons_succ, i64_w, i32_w]
                rfl
              refine pure_ (i := 7) (N := some 25) (v := ?_) (a' := ?_) #[true, true, true, true, true, true, true, true, false, false, false, false, false, false, false, false, false, false, false, false, false, false, false, false, false, false, false, false, false, false, false, false, false, false, false, false, false, false, false] rfl rfl (any_of HT_.out (by kernel_rfl)) (fun _ _ _ h => h) (Or.inl ⟨by rfl, ?_⟩) ?_ ?_
              rotate_left
              · intro w'
                go_simp
                with_reducible rfl
              rotate_left
              · simp only [Act.put, List.setIfInBounds_toArray, List.set_cons_zero, List.set_cons_succ, i64_w, i32_w]
                rfl
              refine pure_ (i := 8) (N := some 26) (v := undef) (a' := ?_) #[true, true, true, true, true, true, true, true, true, false, false, false, false, false, false, false, false, false, false, false, false, false, false, false, false, false, false, false, false, false, false, false, false, false, false, false, false, false, false] rfl rfl (any_of HT_.out (by kernel_rfl)) (fun _ _ _ h => h) (Or.inr ⟨by rfl, rfl⟩) ?_ ?_
              rotate_left
              · simp only [Act.put, List.setIfInBounds_toArray, List.set_cons_zero, List.set_cons_succ, i64_w, i32_w]
                rfl
              refine pure_ (i := 9) (N := some 27) (v := undef) (a' := ?_) #[true, true, true, true, true, true, true, true, true, true, false, false, false, false, false, false, false, false, false, false, false, false, false, false, false, false, false, false, false, false, false, false, false, false, false, false, false, false, false] rfl rfl (any_of HT_.out (by kernel_rfl)) (fun _ _ _ h => h) (Or.inr ⟨by rfl, rfl⟩) ?_ ?_
              rotate_left
              · simp only [Act.put, List.setIfInBounds_toArray, List.set_cons_zero, List.set_cons_succ, i64_w, i32_w]
                rfl
              refine pure_ (i := 10) (N := some 28) (v := undef) (a' := ?_) #[true, true, true, true, true, true, true, true, true, true, true, false, false, false, false, false, false, false, false, false, false, false, false, false, false, false, false, false, false, false, false, false, false, false, false, false, false, false, false] rfl rfl (any_of HT_.out (by kernel_rfl)) (fun _ _ _ h => h) (Or.inr ⟨by rfl, rfl⟩) ?_ ?_
              rotate_left
              · simp only [Act.put, List.setIfInBounds_toArray, List.set_cons_zero, List.set_cons_succ, i64_w, i32_w]
                rfl
              refine pure_ (i := 11) (N := some 29) (v := undef) (a' := ?_) #[true, true, true, true, true, true, true, true, true, true, true, true, false, false, false, false, false, false, false, false, false, false, false, false, false, false, false, false, false, false, false, false, false, false, false, false, false, false, false] rfl rfl (any_of HT_.out (by kernel_rfl)) (fun _ _ _ h => h) (Or.inr ⟨by rfl, rfl⟩) ?_ ?_
              rotate_left
              · simp only [Act.put, List.setIfInBounds_toArray, List.set_cons_zero, List.set_cons_succ, i64_w, i32_w]
                rfl
              refine pure_ (i := 12) (N := some 30) (v := undef) (a' := ?_) #[true, true, true, true, true, true, true, true, true, true, true, true, true, false, false, false, false, false, false, false, false, false, false, false, false, false, false, false, false, false, false, false, false, false, false, false, false, false, false] rfl rfl (any_of HT_.out (by kernel_rfl)) (fun _ _ _ h => h) (Or.inr ⟨by rfl, rfl⟩) ?_ ?_
              rotate_left
              · simp only [Act.put, List.setIfInBounds_toArray, List.set_cons_zero, List.set_cons_succ, i64_w, i32_w]
                rfl
              refine pure_ (i := 13) (N := some 31) (v := undef) (a' := ?_) #[true, true, true, true, true, true, true, true, true, true, true, true, true, true, false, false, false, false, false, false, false, false, false, false, false, false, false, false, false, false, false, false, false, false, false, false, false, false, false] rfl rfl (any_of HT_.out (by kernel_rfl)) (fun _ _ _ h => h) (Or.inr ⟨by rfl, rfl⟩) ?_ ?_
              rotate_left
              · simp only [Act.put, List.setIfInBounds_toArray, List.set_cons_zero, List.set_cons_succ, i64_w, i32_w]
                rfl
              refine pure_ (i := 14) (N := some 32) (v := undef) (a' := ?_) #[true, true, true, true, true, true, true, true, true, true, true, true, true, true, true, false, false, false, false, false, false, false, false, false, false, false, false, false, false, false, false, false, false, false, false, false, false, false, false] rfl rfl (any_of HT_.out (by kernel_rfl)) (fun _ _ _ h => h) (Or.inr ⟨by rfl, rfl⟩) ?_ ?_
              rotate_left
              · simp only [Act.put, List.setIfInBounds_toArray, List.set_cons_zero, List.set_cons_succ, i64_w, i32_w]
                rfl
              refine pure_ (i := 15) (N := some 33) (v := ?_) (a' := ?_) #[true, true, true, true, true, true, true, true, true, true, true, true, true, true, true, true, false, false, false, false, false, false, false, false, false, false, false, false, false, false, false, false, false, false, false, false, false, false, false] rfl rfl (any_of HT_.out (by kernel_rfl)) (fun _ _ _ h => h) (Or.inl ⟨by rfl, ?_⟩) ?_ ?_
              rotate_left
              · intro w'
                go_simp
                with_reducible rfl
              rotate_left
              · simp only [Act.put, List.setIfInBounds_toArray, List.set_cons_zero, List.set_cons_succ, i64_w, i32_w]
                rfl
              refine pure_ (i := 16) (N := some 34) (v := ?_) (a' := ?_) #[true, true, true, true, true, true, true, true, true, true, true, true, true, true, true, true, true, false, false, false, false, false, false, false, false, false, false, false, false, false, false, false, false, false, false, false, false, false, false] rfl rfl (any_of HT_.out (by kernel_rfl)) (fun _ _ _ h => h) (Or.inl ⟨by rfl, ?_⟩) ?_ ?_
              rotate_left
              · intro w'
                go_simp
                with_reducible rfl
              rotate_left
              · simp only [Act.put, List.setIfInBounds_toArray, List.set_cons_zero, List.set_cons_succ, i64_w, i32_w]
                rfl
              refine pure_ (i := 17) (N := some 35) (v := undef) (a' := ?_) #[true, true, true, true, true, true, true, true, true, true, true, true, true, true, true, true, true, true, false, false, false, false, false, false, false, false, false, false, false, false, false, false, false, false, false, false, false, false, false] rfl rfl (any_of HT_.out (by kernel_rfl)) (fun _ _ _ h => h) (Or.inr ⟨by rfl, rfl⟩) ?_ ?_
              rotate_left
              · simp only [Act.put, List.setIfInBounds_toArray, List.set_cons_zero, List.set_cons_succ, i64_w, i32_w]
                rfl
              refine pure_ (i := 18) (N := some 36) (v := undef) (a' := ?_) #[true, true, true, true, true, true, true, true, true, true, true, true, true, true, true, true, true, true, true, false, false, false, false, false, false, false, false, false, false, false, false, false, false, false, false, false, false, false, false] rfl rfl (any_of HT_.out (by kernel_rfl)) (fun _ _ _ h => h) (Or.inr ⟨by rfl, rfl⟩) ?_ ?_
              rotate_left
              · simp only [Act.put, List.setIfInBounds_toArray, List.set_cons_zero, List.set_cons_succ, i64_w, i32_w]
                rfl
              refine pure_ (i := 19) (N := some 37) (v := undef) (a' := ?_) #[true, true, true, true, true, true, true, true, true, true, true, true, true, true, true, true, true, true, true, true, false, false, false, false, false, false, false, false, false, false, false, false, false, false, false, false, false, false, false] rfl rfl (any_of HT_.out (by kernel_rfl)) (fun _ _ _ h => h) (Or.inr ⟨by rfl, rfl⟩) ?_ ?_
              rotate_left
              · simp only [Act.put, List.setIfInBounds_toArray, List.set_cons_zero, List.set_cons_succ, i64_w, i32_w]
                rfl
              refine pure_ (i := 20) (N := some 38) (v := undef) (a' := ?_) #[true, true, true, true, true, true, true, true, true, true, true, true, true, true, true, true, true, true, true, true, true, false, false, false, false, false, false, false, false, false, false, false, false, false, false, false, false, false, false] rfl rfl (any_of HT_.out (by kernel_rfl)) (fun _ _ _ h => h) (Or.inr ⟨by rfl, rfl⟩) ?_ ?_
              rotate_left
              · simp only [Act.put, List.setIfInBounds_toArray, List.set_cons_zero, List.set_cons_succ, i64_w, i32_w]
                rfl
              refine pure_ (i := 21) (N := some 39) (v := undef) (a' := ?_) #[true, true, true, true, true, true, true, true, true, true, true, true, true, true, true, true, true, true, true, true, true, true, false, false, false, false, false, false, false, false, false, false, false, false, false, false, false, false, false] rfl rfl (any_of HT_.out (by kernel_rfl)) (fun _ _ _ h => h) (Or.inr ⟨by rfl, rfl⟩) ?_ ?_
              rotate_left
              · simp only [Act.put, List.setIfInBounds_toArray, List.set_cons_zero, List.set_cons_succ, i64_w, i32_w]
                rfl
              refine pure_ (i := 22) (N := some 40) (v := undef) (a' := ?_) #[true, true, true, true, true, true, true, true, true, true, true, true, true, true, true, true, true, true, true, true, true, true, true, false, false, false, false, false, false, false, false, false, false, false, false, false, false, false, false] rfl rfl (any_of HT_.out (by kernel_rfl)) (fun _ _ _ h => h) (Or.inr ⟨by rfl, rfl⟩) ?_ ?_
              rotate_left
              · simp only [Act.put, List.setIfInBounds_toArray, List.set_cons_zero, List.set_cons_succ, i64_w, i32_w]
                rfl
              refine pure_ (i := 23) (N := some 41) (v := ?_) (a' := ?_) #[true, true, true, true, true, true, true, true, true, true, true, true, true, true, true, true, true, true, true, true, true, true, true, true, false, false, false, false, false, false, false, false, false, false, false, false, false, false, false] rfl rfl (any_of HT_.out (by kernel_rfl)) (fun _ _ _ h => h) (Or.inl ⟨by rfl, ?_⟩) ?_ ?_
              rotate_left
              · intro w'
                go_simp
                with_reducible rfl
              rotate_left
              · simp only [Act.put, List.setIfInBounds_toArray, List.set_cons_zero, List.set_cons_succ, i64_w, i32_w]
                rfl
              refine pure_ (i := 24) (N := some 42) (v := ?_) (a' := ?_) #[true, true, true, true, true, true, true, true, true, true, true, true, true, true, true, true, true, true, true, true, true, true, true, true, true, false, false, false, false, false, false, false, false, false, false, false, false, false, false] rfl rfl (any_of HT_.out (by kernel_rfl)) (fun _ _ _ h => h) (Or.inl ⟨by rfl, ?_⟩) ?_ ?_
              rotate_left
              · intro w'
                go_simp
                with_reducible rfl
              rotate_left
              · simp only [Act.put, List.setIfInBounds_toArray, List.set_cons_zero, List.set_cons_succ, i64_w, i32_w]
                rfl
              refine pure_ (i := 25) (N := some 43) (v := undef) (a' := ?_) #[true, true, true, true, true, true, true, true, true, true, true, true, true, true, true, true, true, true, true, true, true, true, true, true, true, true, false, false, false, false, false, false, false, false, false, false, false, false, false] rfl rfl (any_of HT_.out (by kernel_rfl)) (fun _ _ _ h => h) (Or.inr ⟨by rfl, rfl⟩) ?_ ?_
              rotate_left
              · simp only [Act.put, List.setIfInBounds_toArray, List.set_cons_zero, List.set_cons_succ, i64_w, i32_w]
                rfl
              refine pure_ (i := 26) (N := some 44) (v := undef) (a' := ?_) #[true, true, true, true, true, true, true, true, true, true, true, true, true, true, true, true, true, true, true, true, true, true, true, true, true, true, true, false, false, false, false, false, false, false, false, false, false, false, false] rfl rfl (any_of HT_.out (by kernel_rfl)) (fun _ _ _ h => h) (Or.inr ⟨by rfl, rfl⟩) ?_ ?_
              rotate_left
              · simp only [Act.put, List.setIfInBounds_toArray, List.set_cons_zero, List.set_cons_succ, i64_w, i32_w]
                rfl
              refine pure_ (i := 27) (N := some 45) (v := undef) (a' := ?_) #[true, true, true, true, true, true, true, true, true, true, true, true, true, true, true, true, true, true, true, true, true, true, true, true, true, true, true, true, false, false, false, false, false, false, false, false, false, false, false] rfl rfl (any_of HT_.out (by kernel_rfl)) (fun _ _ _ h => h) (Or.inr ⟨by rfl, rfl⟩) ?_ ?_
              rotate_left
              · simp only [Act.put, List.setIfInBounds_toArray, List.set_cons_zero, List.set_cons_succ, i64_w, i32_w]
                rfl
              refine pure_ (i := 28) (N := some 46) (v := undef) (a' := ?_) #[true, true, true, true, true, true, true, true, true, true, true, true, true, true, true, true, true, true, true, true, true, true, true, true, true, true, true, true, true, false, false, false, false, false, false, false, false, false, false] rfl rfl (any_of HT_.out (by kernel_rfl)) (fun _ _ _ h => h) (Or.inr ⟨by rfl, rfl⟩) ?_ ?_
              rotate_left
              · simp only [Act.put, List.setIfInBounds_toArray, List.set_cons_zero, List.set_cons_succ, i64_w, i32_w]
                rfl
              refine pure_ (i := 29) (N := some 47) (v := undef) (a' := ?_) #[true, true, true, true, true, true, true, true, true, true, true, true, true, true, true, true, true, true, true, true, true, true, true, true, true, true, true, true, true, true, false, false, false, false, false, false, false, false, false] rfl rfl (any_of HT_.out (by kernel_rfl)) (fun _ _ _ h => h) (Or.inr ⟨by rfl, rfl⟩) ?_ ?_
              rotate_left
              · simp only [Act.put, List.setIfInBounds_toArray, List.set_cons_zero, List.set_cons_succ, i64_w, i32_w]
                rfl
              refine pure_ (i := 30) (N := some 48) (v := undef) (a' := ?_) #[true, true, true, true, true, true, true, true, true, true, true, true, true, true, true, true, true, true, true, true, true, true, true, true, true, true, true, true, true, true, true, false, false, false, false, false, false, false, false] rfl rfl (any_of HT_.out (by kernel_rfl)) (fun _ _ _ h => h) (Or.inr ⟨by rfl, rfl⟩) ?_ ?_
              rotate_left
              · simp only [Act.put, List.setIfInBounds_toArray, List.set_cons_zero, List.set_cons_succ, i64_w, i32_w]
                rfl
              refine pure_ (i := 31) (N := some 49) (v := undef) (a' := ?_) #[true, true, true, true, true, true, true, true, true, true, true, true, true, true, true, true, true, true, true, true, true, true, true, true, true, true, true, true, true, true, true, true, false, false, false, false, false, false, false] rfl rfl (any_of HT_.out (by kernel_rfl)) (fun _ _ _ h => h) (Or.inr ⟨by rfl, rfl⟩) ?_ ?_
              rotate_left
              · simp only [Act.put, List.setIfInBounds_toArray, List.set_cons_zero, List.set_cons_succ, i64_w, i32_w]
                rfl
              refine pure_ (i := 32) (N := some 50) (v := undef) (a' := ?_) #[true, true, true, true, true, true, true, true, true, true, true, true, true, true, true, true, true, true, true, true, true, true, true, true, true, true, true, true, true, true, true, true, true, false, false, false, false, false, false] rfl rfl (any_of HT_.out (by kernel_rfl)) (fun _ _ _ h => h) (Or.inr ⟨by rfl, rfl⟩) ?_ ?_
              rotate_left
              · simp only [Act.put, List.setIfInBounds_toArray, List.set_cons_zero, List.set_cons_succ, i64_w, i32_w]
                rfl
              refine pure_ (i := 33) (N := some 51) (v := undef) (a' := ?_) #[true, true, true, true, true, true, true, true, true, true, true, true, true, true, true, true, true, true, true, true, true, true, true, true, true, true, true, true, true, true, true, true, true, true, false, false, false, false, false] rfl rfl (any_of HT_.out (by kernel_rfl)) (fun _ _ _ h => h) (Or.inr ⟨by rfl, rfl⟩) ?_ ?_
              rotate_left
              · simp only [Act.put, List.setIfInBounds_toArray, List.set_cons_zero, List.set_cons_succ, i64_w, i32_w]
                rfl
              refine pure_ (i := 34) (N := some 52) (v := undef) (a' := ?_) #[true, true, true, true, true, true, true, true, true, true, true, true, true, true, true, true, true, true, true, true, true, true, true, true, true, true, true, true, true, true, true, true, true, true, true, false, false, false, false] rfl rfl (any_of HT_.out (by kernel_rfl)) (fun _ _ _ h => h) (Or.inr ⟨by rfl, rfl⟩) ?_ ?_
              rotate_left
              · simp only [Act.put, List.setIfInBounds_toArray, List.set_cons_zero, List.set_cons_succ, i64_w, i32_w]
                rfl
              refine pure_ (i := 35) (N := some 53) (v := undef) (a' := ?_) #[true, true, true, true, true, true, true, true, true, true, true, true, true, true, true, true, true, true, true, true, true, true, true, true, true, true, true, true, true, true, true, true, true, true, true, true, false, false, false] rfl rfl (any_of HT_.out (by kernel_rfl)) (fun _ _ _ h => h) (Or.inr ⟨by rfl, rfl⟩) ?_ ?_
              rotate_left
              · simp only [Act.put, List.setIfInBounds_toArray, List.set_cons_zero, List.set_cons_succ, i64_w, i32_w]
                rfl
              refine pure_ (i := 36) (N := some 54) (v := undef) (a' := ?_) #[true, true, true, true, true, true, true, true, true, true, true, true, true, true, true, true, true, true, true, true, true, true, true, true, true, true, true, true, true, true, true, true, true, true, true, true, true, false, false] rfl rfl (any_of HT_.out (by kernel_rfl)) (fun _ _ _ h => h) (Or.inr ⟨by rfl, rfl⟩) ?_ ?_
              rotate_left
              · simp only [Act.put, List.setIfInBounds_toArray, List.set_cons_zero, List.set_cons_succ, i64_w, i32_w]
                rfl
              refine pure_ (i := 37) (N := some 55) (v := undef) (a' := ?_) #[true, true, true, true, true, true, true, true, true, true, true, true, true, true, true, true, true, true, true, true, true, true, true, true, true, true, true, true, true, true, true, true, true, true, true, true, true, true, false] rfl rfl (any_of HT_.out (by kernel_rfl)) (fun _ _ _ h => h) (Or.inr ⟨by rfl, rfl⟩) ?_ ?_
              rotate_left
              · simp only [Act.put, List.setIfInBounds_toArray, List.set_cons_zero, List.set_cons_succ, i64_w, i32_w]
                rfl
              refine pure_ (i := 38) (N := some 56) (v := ?_) (a' := ?_) #[true, true, true, true, true, true, true, true, true, true, true, true, true, true, true, true, true, true, true, true, true, true, true, true, true, true, true, true, true, true, true, true, true, true, true, true, true, true, true] rfl rfl (any_of HT_.out (by kernel_rfl)) (fun _ _ _ h => h) (Or.inl ⟨by rfl, ?_⟩) ?_ ?_
              rotate_left
              · intro w'
                go_simp
                with_reducible rfl
              rotate_left
              · simp only [Act.put, List.setIfInBounds_toArray, List.set_cons_zero, List.set_cons_succ, i64_w, i32_w]
                rfl
              refine done_ (done_of HT_.out (by kernel_rfl)) ?_
              try go_wp2
              go_ret
              exact ⟨by first | rfl | (simp [errW_none, errW_some] <;> rfl) | (simp [*, errW_none, errW_some] <;> rfl), by repeat (first | (with_reducible first | exact HB.out | apply below_alloc | apply pw_below_drewN | apply below_drew1) | exact HB.out)⟩
          · rw [if_neg c5] at H
            exact absurd H (by simp)
        · rw [if_neg c4] at H
          have c4b0 : decide (x3_1 < (l0.length : Int)) = false := decide_eq_false c4
          clear c4
          obtain rfl := Option.some.inj H
          go_wp2
          go_ret
          exact ⟨by first | rfl | (simp [errW_none, errW_some] <;> rfl) | (simp [*, errW_none, errW_some] <;> rfl), by repeat (first | (with_reducible first | exact HB.out | apply below_alloc | apply pw_below_drewN | apply below_drew1) | exact HB.out)⟩
  · replace c3 := Bool.eq_false_iff.mpr c3
    subst c3
    have H1 : (some false) = some r := by rw [if_neg (show ¬ (false = true) by decide)] at H; exact H
    clear H
    have H := H1
    clear H1
    obtain rfl := Option.some.inj H
    go_enter Try.func82, Try.ntmps82
    go_wp2_with (first | ((with_reducible refine gate_callee (f := 71) rfl ?_); refine goesL_ (some 7) rfl rfl Try.func71 (by kernel_rfl) rfl #[.int .i64 (l0.length : Int), .int .i64 1, .int .i64 6] rfl (by (try simp only [List.map_toArray, List.map_cons, List.map_nil]); first | done | rfl | (simp only [List.length_drop, List.length_take]; rfl)) ?_; (with_reducible refine (spec_l00In.calls (l0.length : Int) 1 6 false _ A2.out).mono ?_); rintro e w' ⟨rfl, ⟨nd, rfl⟩⟩; refine ⟨_, rfl, ?_⟩))
    go_ret
    exact ⟨by first | rfl | (simp [errW_none, errW_some] <;> rfl) | (simp [*, errW_none, errW_some] <;> rfl), by repeat (first | (with_reducible first | exact HB.out | apply below_alloc | apply pw_below_drewN | apply below_drew1) | exact HB.out)⟩

end Go.Proofs.Ytmklaccobbkebab.XFnExactPeriodOfShaft
