/- Printed by this repository's own program (wip/tools/xprint.py) for the law FnExactCheckReach: Lean functions that say what the Go functions compute, and the proofs that the machine comes to just that; no condition beyond those in each statement. -/
import Derived.Test.YtkgeppbjfkhjcaaXFnExactCheckReachx0
import Derived.Test.YtkgeppbjfkhjcaaXFnExactCheckReachx1
namespace Go.Proofs.Ytkgeppbjfkhjcaa.XFnExactCheckReach
open Go.RowKit Go.Proofs.YtkgeppbjfkhjcaaW.PrintWords Go.Proofs.YtkgeppbjfkhjcaaW.PrintLast Go.Proofs.YtkgeppbjfkhjcaaW.PrintMore
attribute [local go_sem] max2_int min2_int max_two min_two max_three min_three max_four min_four   -- for this text's walks alone
set_option linter.unusedVariables false
set_option linter.unusedSimpArgs false

/-! ### spec_l05Stretch_may: function 34 -/
def spec_l05Stretch_may.f (l0 : List Int) (a1 : Int) (a2 : Int) (a3 : Int) (a4 : Int) (a5 : Int) (a6 : Int) (a7 : Int) : Option (Int) := (spec_l00Max.f 0 (wrap64 ((wrap64 ((wrap64 (2 * a6)) - a5)) - a4))).bind fun t122 => ((spec_l00Min.f 63 (wrap64 ((wrap64 ((wrap64 (2 * a6)) - a5)) + a4))).bind fun t123 => (if a7 > a2 then ((spec_l05Stretch_at.f l0 a1 a2 a3 a4 (wrap64 ((wrap64 (a1 + a7)) - 1))).bind fun t124 => ((spec_l00Max.f t122 t124).bind fun t125 => ((spec_l00Min.f t123 t124).bind fun t126 => (if t125 > t126 then (some 0) else (if 0 ≤ (IntKind.u64.wrap (wrap64 (63 - t126))) then (if 0 ≤ (IntKind.u64.wrap (t125)) then (some (shl .u64 (shr .u64 (shr .u64 18446744073709551615 (IntKind.u64.wrap (wrap64 (63 - t126)))) (IntKind.u64.wrap (t125))) (IntKind.u64.wrap (t125)))) else (none)) else (none)))))) else (if t122 > t123 then (some 0) else (if 0 ≤ (IntKind.u64.wrap (wrap64 (63 - t123))) then (if 0 ≤ (IntKind.u64.wrap (t122)) then (some (shl .u64 (shr .u64 (shr .u64 18446744073709551615 (IntKind.u64.wrap (wrap64 (63 - t123)))) (IntKind.u64.wrap (t122))) (IntKind.u64.wrap (t122)))) else (none)) else (none)))))
set_option maxHeartbeats 8000000 in
set_option maxRecDepth 100000 in
theorem spec_l05Stretch_may.calls {ad0_ : Addr} (A0 : Option Addr) (c0 : Nat) (l0 : List Int) (a1 : Int) (a2 : Int) (a3 : Int) (a4 : Int) (a5 : Int) (a6 : Int) (a7 : Int) (r : Int) (w : World) (hr0 : Kd.C (Kd.int .i16) w A0 l0.length l0) (hc0 : l0.length ≤ c0) (hq0_ : w.cell? ad0_ = some (.slice A0 l0.length c0)) (hq1_ : w.cell? ⟨ad0_.block, ad0_.off + 1, none⟩ = some (.int .i64 a1)) (hq2_ : w.cell? ⟨ad0_.block, ad0_.off + 2, none⟩ = some (.int .i64 a2)) (hq3_ : w.cell? ⟨ad0_.block, ad0_.off + 3, none⟩ = some (.int .i64 a3)) (hq4_ : w.cell? ⟨ad0_.block, ad0_.off + 4, none⟩ = some (.int .i64 a4)) (h : spec_l05Stretch_may.f l0 a1 a2 a3 a4 a5 a6 a7 = some r) :
    Calls Try.prog 34 #[.pointer (some ad0_), .int .i64 a5, .int .i64 a6, .int .i64 a7] w fun e w' => e = .returned (.int .u64 r) ∧ Drawn0 w w' := by
  have HR0 := Aside0.mk hr0
  have HC0 := Aside0.mk hc0
  clear hr0 hc0
  have HQ0_ := Aside0.mk hq0_
  have HQ1_ := Aside0.mk hq1_
  have HQ2_ := Aside0.mk hq2_
  have HQ3_ := Aside0.mk hq3_
  have HQ4_ := Aside0.mk hq4_
  have H : ((spec_l00Max.f 0 (wrap64 ((wrap64 ((wrap64 (2 * a6)) - a5)) - a4))).bind fun t122 => ((spec_l00Min.f 63 (wrap64 ((wrap64 ((wrap64 (2 * a6)) - a5)) + a4))).bind fun t123 => (if a7 > a2 then ((spec_l05Stretch_at.f l0 a1 a2 a3 a4 (wrap64 ((wrap64 (a1 + a7)) - 1))).bind fun t124 => ((spec_l00Max.f t122 t124).bind fun t125 => ((spec_l00Min.f t123 t124).bind fun t126 => (if t125 > t126 then (some 0) else (if 0 ≤ (IntKind.u64.wrap (wrap64 (63 - t126))) then (if 0 ≤ (IntKind.u64.wrap (t125)) then (some (shl .u64 (shr .u64 (shr .u64 18446744073709551615 (IntKind.u64.wrap (wrap64 (63 - t126)))) (IntKind.u64.wrap (t125))) (IntKind.u64.wrap (t125)))) else (none)) else (none)))))) else (if t122 > t123 then (some 0) else (if 0 ≤ (IntKind.u64.wrap (wrap64 (63 - t123))) then (if 0 ≤ (IntKind.u64.wrap (t122)) then (some (shl .u64 (shr .u64 (shr .u64 18446744073709551615 (IntKind.u64.wrap (wrap64 (63 - t123)))) (IntKind.u64.wrap (t122))) (IntKind.u64.wrap (t122)))) else (none)) else (none)))))) = some r := h
  clear h
  replace H := Option.bind_eq_some_iff.mp H
  obtain ⟨t122, A90, H⟩ := H
  replace H : ((spec_l00Min.f 63 (wrap64 ((wrap64 ((wrap64 (2 * a6)) - a5)) + a4))).bind fun t123 => (if a7 > a2 then ((spec_l05Stretch_at.f l0 a1 a2 a3 a4 (wrap64 ((wrap64 (a1 + a7)) - 1))).bind fun t124 => ((spec_l00Max.f t122 t124).bind fun t125 => ((spec_l00Min.f t123 t124).bind fun t126 => (if t125 > t126 then (some 0) else (if 0 ≤ (IntKind.u64.wrap (wrap64 (63 - t126))) then (if 0 ≤ (IntKind.u64.wrap (t125)) then (some (shl .u64 (shr .u64 (shr .u64 18446744073709551615 (IntKind.u64.wrap (wrap64 (63 - t126)))) (IntKind.u64.wrap (t125))) (IntKind.u64.wrap (t125)))) else (none)) else (none)))))) else (if t122 > t123 then (some 0) else (if 0 ≤ (IntKind.u64.wrap (wrap64 (63 - t123))) then (if 0 ≤ (IntKind.u64.wrap (t122)) then (some (shl .u64 (shr .u64 (shr .u64 18446744073709551615 (IntKind.u64.wrap (wrap64 (63 - t123)))) (IntKind.u64.wrap (t122))) (IntKind.u64.wrap (t122)))) else (none)) else (none))))) = some r := H
  have A9 := Aside0.mk A90
  clear A90
  replace H := Option.bind_eq_some_iff.mp H
  obtain ⟨t123, A100, H⟩ := H
  replace H : (if a7 > a2 then ((spec_l05Stretch_at.f l0 a1 a2 a3 a4 (wrap64 ((wrap64 (a1 + a7)) - 1))).bind fun t124 => ((spec_l00Max.f t122 t124).bind fun t125 => ((spec_l00Min.f t123 t124).bind fun t126 => (if t125 > t126 then (some 0) else (if 0 ≤ (IntKind.u64.wrap (wrap64 (63 - t126))) then (if 0 ≤ (IntKind.u64.wrap (t125)) then (some (shl .u64 (shr .u64 (shr .u64 18446744073709551615 (IntKind.u64.wrap (wrap64 (63 - t126)))) (IntKind.u64.wrap (t125))) (IntKind.u64.wrap (t125)))) else (none)) else (none)))))) else (if t122 > t123 then (some 0) else (if 0 ≤ (IntKind.u64.wrap (wrap64 (63 - t123))) then (if 0 ≤ (IntKind.u64.wrap (t122)) then (some (shl .u64 (shr .u64 (shr .u64 18446744073709551615 (IntKind.u64.wrap (wrap64 (63 - t123)))) (IntKind.u64.wrap (t122))) (IntKind.u64.wrap (t122)))) else (none)) else (none)))) = some r := H
  have A10 := Aside0.mk A100
  clear A100
  by_cases c11 : a7 > a2
  · rw [if_pos c11] at H
    have c11b0 : decide (a2 < a7) = true := decide_eq_true c11
    clear c11
    replace H := Option.bind_eq_some_iff.mp H
    obtain ⟨t124, A120, H⟩ := H
    replace H : ((spec_l00Max.f t122 t124).bind fun t125 => ((spec_l00Min.f t123 t124).bind fun t126 => (if t125 > t126 then (some 0) else (if 0 ≤ (IntKind.u64.wrap (wrap64 (63 - t126))) then (if 0 ≤ (IntKind.u64.wrap (t125)) then (some (shl .u64 (shr .u64 (shr .u64 18446744073709551615 (IntKind.u64.wrap (wrap64 (63 - t126)))) (IntKind.u64.wrap (t125))) (IntKind.u64.wrap (t125)))) else (none)) else (none))))) = some r := H
    have A12 := Aside0.mk A120
    clear A120
    replace H := Option.bind_eq_some_iff.mp H
    obtain ⟨t125, A130, H⟩ := H
    replace H : ((spec_l00Min.f t123 t124).bind fun t126 => (if t125 > t126 then (some 0) else (if 0 ≤ (IntKind.u64.wrap (wrap64 (63 - t126))) then (if 0 ≤ (IntKind.u64.wrap (t125)) then (some (shl .u64 (shr .u64 (shr .u64 18446744073709551615 (IntKind.u64.wrap (wrap64 (63 - t126)))) (IntKind.u64.wrap (t125))) (IntKind.u64.wrap (t125)))) else (none)) else (none)))) = some r := H
    have A13 := Aside0.mk A130
    clear A130
    replace H := Option.bind_eq_some_iff.mp H
    obtain ⟨t126, A140, H⟩ := H
    replace H : (if t125 > t126 then (some 0) else (if 0 ≤ (IntKind.u64.wrap (wrap64 (63 - t126))) then (if 0 ≤ (IntKind.u64.wrap (t125)) then (some (shl .u64 (shr .u64 (shr .u64 18446744073709551615 (IntKind.u64.wrap (wrap64 (63 - t126)))) (IntKind.u64.wrap (t125))) (IntKind.u64.wrap (t125)))) else (none)) else (none))) = some r := H
    have A14 := Aside0.mk A140
    clear A140
    by_cases c15 : t125 > t126
    · rw [if_pos c15] at H
      have c15b0 : decide (t126 < t125) = true := decide_eq_true c15
      clear c15
      obtain rfl := Option.some.inj H
      go_enter Try.func34, Try.ntmps34
      go_wp2_with (first | ((with_reducible refine gate_callee (f := 64) rfl ?_); refine goesL_ (some 21) rfl rfl Try.func64 (by kernel_rfl) rfl #[.int .i64 0, .int .i64 (wrap64 ((wrap64 ((wrap64 (2 * a6)) - a5)) - a4))] rfl (by (try simp only [List.map_toArray, List.map_cons, List.map_nil]); first | done | rfl | (simp only [List.length_drop, List.length_take]; rfl)) ?_; (with_reducible refine (spec_l00Max.calls 0 (wrap64 ((wrap64 ((wrap64 (2 * a6)) - a5)) - a4)) t122 _ A9.out).mono ?_); rintro e w' ⟨rfl, ⟨nd, rfl⟩⟩; refine ⟨_, rfl, ?_⟩) | ((with_reducible refine gate_callee (f := 60) rfl ?_); refine goesL_ (some 31) rfl rfl Try.func60 (by kernel_rfl) rfl #[.int .i64 63, .int .i64 (wrap64 ((wrap64 ((wrap64 (2 * a6)) - a5)) + a4))] rfl (by (try simp only [List.map_toArray, List.map_cons, List.map_nil]); first | done | rfl | (simp only [List.length_drop, List.length_take]; rfl)) ?_; (with_reducible refine (spec_l00Min.calls 63 (wrap64 ((wrap64 ((wrap64 (2 * a6)) - a5)) + a4)) t123 _ A10.out).mono ?_); rintro e w' ⟨rfl, ⟨nd, rfl⟩⟩; refine ⟨_, rfl, ?_⟩) | ((with_reducible refine gate_callee (f := 33) rfl ?_); refine goesL_ (some 46) rfl rfl Try.func33 (by kernel_rfl) rfl #[.pointer (some ad0_), .int .i64 (wrap64 ((wrap64 (a1 + a7)) - 1))] rfl (by (try simp only [List.map_toArray, List.map_cons, List.map_nil]); first | done | rfl | (simp only [List.length_drop, List.length_take]; rfl)) ?_; (with_reducible refine (spec_l05Stretch_at.calls A0 c0 l0 a1 a2 a3 a4 (wrap64 ((wrap64 (a1 + a7)) - 1)) t124 _ ?side1 ?side2 ?side3 ?side4 ?side5 ?side6 ?side7 A12.out).mono ?_); (case side1 => repeat (first | exact HR0.out | (with_reducible refine Kd.C_alloc ?_ _) | (with_reducible refine Kd.C_drewN ?_ _) | (with_reducible refine Kd.C_drew ?_))); (case side2 => exact HC0.out); (case side3 => (repeat (first | (with_reducible exact HQ0_.out) | (with_reducible refine xq_drewN ?_ _) | (with_reducible refine xq_drew ?_) | (with_reducible refine xq_alloc ?_ _)))); (case side4 => (repeat (first | (with_reducible exact HQ1_.out) | (with_reducible refine xq_drewN ?_ _) | (with_reducible refine xq_drew ?_) | (with_reducible refine xq_alloc ?_ _)))); (case side5 => (repeat (first | (with_reducible exact HQ2_.out) | (with_reducible refine xq_drewN ?_ _) | (with_reducible refine xq_drew ?_) | (with_reducible refine xq_alloc ?_ _)))); (case side6 => (repeat (first | (with_reducible exact HQ3_.out) | (with_reducible refine xq_drewN ?_ _) | (with_reducible refine xq_drew ?_) | (with_reducible refine xq_alloc ?_ _)))); (case side7 => (repeat (first | (with_reducible exact HQ4_.out) | (with_reducible refine xq_drewN ?_ _) | (with_reducible refine xq_drew ?_) | (with_reducible refine xq_alloc ?_ _)))); rintro e w' ⟨rfl, ⟨nd, rfl⟩⟩; refine ⟨_, rfl, ?_⟩) | ((with_reducible refine gate_callee (f := 64) rfl ?_); refine goesL_ (some 49) rfl rfl Try.func64 (by kernel_rfl) rfl #[.int .i64 t122, .int .i64 t124] rfl (by (try simp only [List.map_toArray, List.map_cons, List.map_nil]); first | done | rfl | (simp only [List.length_drop, List.length_take]; rfl)) ?_; (with_reducible refine (spec_l00Max.calls t122 t124 t125 _ A13.out).mono ?_); rintro e w' ⟨rfl, ⟨nd, rfl⟩⟩; refine ⟨_, rfl, ?_⟩) | ((with_reducible refine gate_callee (f := 60) rfl ?_); refine goesL_ (some 52) rfl rfl Try.func60 (by kernel_rfl) rfl #[.int .i64 t123, .int .i64 t124] rfl (by (try simp only [List.map_toArray, List.map_cons, List.map_nil]); first | done | rfl | (simp only [List.length_drop, List.length_take]; rfl)) ?_; (with_reducible refine (spec_l00Min.calls t123 t124 t126 _ A14.out).mono ?_); rintro e w' ⟨rfl, ⟨nd, rfl⟩⟩; refine ⟨_, rfl, ?_⟩))
      go_ret
      exact ⟨by first | rfl | (simp; done) | (simp [*]; done) | (simp [i64_w]; done), by repeat (first | exact Drawn0.refl _ | apply Drawn0.step)⟩
    · rw [if_neg c15] at H
      have c15b0 : decide (t126 < t125) = false := decide_eq_false c15
      clear c15
      obtain ⟨ji16, hji16⟩ : ∃ j_ : Int, (IntKind.u64.wrap (wrap64 (63 - t126))) = j_ := ⟨_, rfl⟩
      replace H : (if 0 ≤ (ji16) then (if 0 ≤ (IntKind.u64.wrap (t125)) then (some (shl .u64 (shr .u64 (shr .u64 18446744073709551615 (ji16)) (IntKind.u64.wrap (t125))) (IntKind.u64.wrap (t125)))) else (none)) else (none)) = some r := by first | (rw [hji16] at H; exact H) | (simp only [hji16] at H ⊢; exact H)
      (try rw [hji16] at A9)
      (try rw [hji16] at A10)
      (try rw [hji16] at A12)
      (try rw [hji16] at A13)
      (try rw [hji16] at A14)
      by_cases c17 : 0 ≤ (ji16)
      · rw [if_pos c17] at H
        have c17b0 := eq_true c17
        have c17b1 : decide (0 ≤ (ji16)) = true := decide_eq_true c17
        clear c17
        obtain ⟨ji18, hji18⟩ : ∃ j_ : Int, (shr .u64 18446744073709551615 (ji16)) = j_ := ⟨_, rfl⟩
        replace H : (if 0 ≤ (IntKind.u64.wrap (t125)) then (some (shl .u64 (shr .u64 (ji18) (IntKind.u64.wrap (t125))) (IntKind.u64.wrap (t125)))) else (none)) = some r := by first | (rw [hji18] at H; exact H) | (simp only [hji18] at H ⊢; exact H)
        (try rw [hji18] at A9)
        (try rw [hji18] at A10)
        (try rw [hji18] at A12)
        (try rw [hji18] at A13)
        (try rw [hji18] at A14)
        have hji18_ : (18446744073709551615 / 2 ^ min (ji16).toNat 64) = ji18 := hji18
        have hji18z : (ji16) ≤ 64 → (18446744073709551615 / 2 ^ (ji16).toNat) = ji18 := shr_small hji18
        obtain ⟨ji19, hji19⟩ : ∃ j_ : Int, (IntKind.u64.wrap (t125)) = j_ := ⟨_, rfl⟩
        replace H : (if 0 ≤ (ji19) then (some (shl .u64 (shr .u64 (ji18) (ji19)) (ji19))) else (none)) = some r := by first | (rw [hji19] at H; exact H) | (simp only [hji19] at H ⊢; exact H)
        (try rw [hji19] at A9)
        (try rw [hji19] at A10)
        (try rw [hji19] at A12)
        (try rw [hji19] at A13)
        (try rw [hji19] at A14)
        by_cases c20 : 0 ≤ (ji19)
        · rw [if_pos c20] at H
          have c20b0 := eq_true c20
          have c20b1 : decide (0 ≤ (ji19)) = true := decide_eq_true c20
          clear c20
          obtain ⟨ji21, hji21⟩ : ∃ j_ : Int, (shr .u64 (ji18) (ji19)) = j_ := ⟨_, rfl⟩
          replace H : (some (shl .u64 (ji21) (ji19))) = some r := by first | (rw [hji21] at H; exact H) | (simp only [hji21] at H ⊢; exact H)
          (try rw [hji21] at A9)
          (try rw [hji21] at A10)
          (try rw [hji21] at A12)
          (try rw [hji21] at A13)
          (try rw [hji21] at A14)
          have hji21_ : ((ji18) / 2 ^ min (ji19).toNat 64) = ji21 := hji21
          have hji21z : (ji19) ≤ 64 → ((ji18) / 2 ^ (ji19).toNat) = ji21 := shr_small hji21
          have c22b0 := eq_true (of_decide_eq_true (by first | (with_reducible assumption) | assumption) : 0 ≤ (ji19))
          obtain ⟨ji23, hji23⟩ : ∃ j_ : Int, (shl .u64 (ji21) (ji19)) = j_ := ⟨_, rfl⟩
          replace H : (some ji23) = some r := by first | (rw [hji23] at H; exact H) | (simp only [hji23] at H ⊢; exact H)
          (try rw [hji23] at A9)
          (try rw [hji23] at A10)
          (try rw [hji23] at A12)
          (try rw [hji23] at A13)
          (try rw [hji23] at A14)
          have hji23_ : (IntKind.u64.wrap ((ji21) * 2 ^ min (ji19).toNat 64)) = ji23 := hji23
          have hji23z : (ji19) ≤ 64 → (IntKind.u64.wrap ((ji21) * 2 ^ (ji19).toNat)) = ji23 := shl_small hji23
          obtain rfl := Option.some.inj H
          go_enter Try.func34, Try.ntmps34
          go_wp2_with (first | ((with_reducible refine gate_callee (f := 64) rfl ?_); refine goesL_ (some 21) rfl rfl Try.func64 (by kernel_rfl) rfl #[.int .i64 0, .int .i64 (wrap64 ((wrap64 ((wrap64 (2 * a6)) - a5)) - a4))] rfl (by (try simp only [List.map_toArray, List.map_cons, List.map_nil]); first | done | rfl | (simp only [List.length_drop, List.length_take]; rfl)) ?_; (with_reducible refine (spec_l00Max.calls 0 (wrap64 ((wrap64 ((wrap64 (2 * a6)) - a5)) - a4)) t122 _ A9.out).mono ?_); rintro e w' ⟨rfl, ⟨nd, rfl⟩⟩; refine ⟨_, rfl, ?_⟩) | ((with_reducible refine gate_callee (f := 60) rfl ?_); refine goesL_ (some 31) rfl rfl Try.func60 (by kernel_rfl) rfl #[.int .i64 63, .int .i64 (wrap64 ((wrap64 ((wrap64 (2 * a6)) - a5)) + a4))] rfl (by (try simp only [List.map_toArray, List.map_cons, List.map_nil]); first | done | rfl | (simp only [List.length_drop, List.length_take]; rfl)) ?_; (with_reducible refine (spec_l00Min.calls 63 (wrap64 ((wrap64 ((wrap64 (2 * a6)) - a5)) + a4)) t123 _ A10.out).mono ?_); rintro e w' ⟨rfl, ⟨nd, rfl⟩⟩; refine ⟨_, rfl, ?_⟩) | ((with_reducible refine gate_callee (f := 33) rfl ?_); refine goesL_ (some 46) rfl rfl Try.func33 (by kernel_rfl) rfl #[.pointer (some ad0_), .int .i64 (wrap64 ((wrap64 (a1 + a7)) - 1))] rfl (by (try simp only [List.map_toArray, List.map_cons, List.map_nil]); first | done | rfl | (simp only [List.length_drop, List.length_take]; rfl)) ?_; (with_reducible refine (spec_l05Stretch_at.calls A0 c0 l0 a1 a2 a3 a4 (wrap64 ((wrap64 (a1 + a7)) - 1)) t124 _ ?side1 ?side2 ?side3 ?side4 ?side5 ?side6 ?side7 A12.out).mono ?_); (case side1 => repeat (first | exact HR0.out | (with_reducible refine Kd.C_alloc ?_ _) | (with_reducible refine Kd.C_drewN ?_ _) | (with_reducible refine Kd.C_drew ?_))); (case side2 => exact HC0.out); (case side3 => (repeat (first | (with_reducible exact HQ0_.out) | (with_reducible refine xq_drewN ?_ _) | (with_reducible refine xq_drew ?_) | (with_reducible refine xq_alloc ?_ _)))); (case side4 => (repeat (first | (with_reducible exact HQ1_.out) | (with_reducible refine xq_drewN ?_ _) | (with_reducible refine xq_drew ?_) | (with_reducible refine xq_alloc ?_ _)))); (case side5 => (repeat (first | (with_reducible exact HQ2_.out) | (with_reducible refine xq_drewN ?_ _) | (with_reducible refine xq_drew ?_) | (with_reducible refine xq_alloc ?_ _)))); (case side6 => (repeat (first | (with_reducible exact HQ3_.out) | (with_reducible refine xq_drewN ?_ _) | (with_reducible refine xq_drew ?_) | (with_reducible refine xq_alloc ?_ _)))); (case side7 => (repeat (first | (with_reducible exact HQ4_.out) | (with_reducible refine xq_drewN ?_ _) | (with_reducible refine xq_drew ?_) | (with_reducible refine xq_alloc ?_ _)))); rintro e w' ⟨rfl, ⟨nd, rfl⟩⟩; refine ⟨_, rfl, ?_⟩) | ((with_reducible refine gate_callee (f := 64) rfl ?_); refine goesL_ (some 49) rfl rfl Try.func64 (by kernel_rfl) rfl #[.int .i64 t122, .int .i64 t124] rfl (by (try simp only [List.map_toArray, List.map_cons, List.map_nil]); first | done | rfl | (simp only [List.length_drop, List.length_take]; rfl)) ?_; (with_reducible refine (spec_l00Max.calls t122 t124 t125 _ A13.out).mono ?_); rintro e w' ⟨rfl, ⟨nd, rfl⟩⟩; refine ⟨_, rfl, ?_⟩) | ((with_reducible refine gate_callee (f := 60) rfl ?_); refine goesL_ (some 52) rfl rfl Try.func60 (by kernel_rfl) rfl #[.int .i64 t123, .int .i64 t124] rfl (by (try simp only [List.map_toArray, List.map_cons, List.map_nil]); first | done | rfl | (simp only [List.length_drop, List.length_take]; rfl)) ?_; (with_reducible refine (spec_l00Min.calls t123 t124 t126 _ A14.out).mono ?_); rintro e w' ⟨rfl, ⟨nd, rfl⟩⟩; refine ⟨_, rfl, ?_⟩))
          go_ret
          exact ⟨by first | rfl | (simp; done) | (simp only [← hji16, ← hji18, ← hji19, ← hji21, ← hji23] <;> (first | rfl | simp)) | (simp [*]; done), by repeat (first | exact Drawn0.refl _ | apply Drawn0.step)⟩
        · rw [if_neg c20] at H
          exact absurd H (by simp)
      · rw [if_neg c17] at H
        exact absurd H (by simp)
  · rw [if_neg c11] at H
    have c11b0 : decide (a2 < a7) = false := decide_eq_false c11
    clear c11
    by_cases c24 : t122 > t123
    · rw [if_pos c24] at H
      have c24b0 : decide (t123 < t122) = true := decide_eq_true c24
      clear c24
      obtain rfl := Option.some.inj H
      go_enter Try.func34, Try.ntmps34
      go_wp2_with (first | ((with_reducible refine gate_callee (f := 64) rfl ?_); refine goesL_ (some 21) rfl rfl Try.func64 (by kernel_rfl) rfl #[.int .i64 0, .int .i64 (wrap64 ((wrap64 ((wrap64 (2 * a6)) - a5)) - a4))] rfl (by (try simp only [List.map_toArray, List.map_cons, List.map_nil]); first | done | rfl | (simp only [List.length_drop, List.length_take]; rfl)) ?_; (with_reducible refine (spec_l00Max.calls 0 (wrap64 ((wrap64 ((wrap64 (2 * a6)) - a5)) - a4)) t122 _ A9.out).mono ?_); rintro e w' ⟨rfl, ⟨nd, rfl⟩⟩; refine ⟨_, rfl, ?_⟩) | ((with_reducible refine gate_callee (f := 60) rfl ?_); refine goesL_ (some 31) rfl rfl Try.func60 (by kernel_rfl) rfl #[.int .i64 63, .int .i64 (wrap64 ((wrap64 ((wrap64 (2 * a6)) - a5)) + a4))] rfl (by (try simp only [List.map_toArray, List.map_cons, List.map_nil]); first | done | rfl | (simp only [List.length_drop, List.length_take]; rfl)) ?_; (with_reducible refine (spec_l00Min.calls 63 (wrap64 ((wrap64 ((wrap64 (2 * a6)) - a5)) + a4)) t123 _ A10.out).mono ?_); rintro e w' ⟨rfl, ⟨nd, rfl⟩⟩; refine ⟨_, rfl, ?_⟩))
      go_ret
      exact ⟨by first | rfl | (simp; done) | (simp [*]; done) | (simp [i64_w]; done), by repeat (first | exact Drawn0.refl _ | apply Drawn0.step)⟩
    · rw [if_neg c24] at H
      have c24b0 : decide (t123 < t122) = false := decide_eq_false c24
      clear c24
      obtain ⟨ji25, hji25⟩ : ∃ j_ : Int, (IntKind.u64.wrap (wrap64 (63 - t123))) = j_ := ⟨_, rfl⟩
      replace H : (if 0 ≤ (ji25) then (if 0 ≤ (IntKind.u64.wrap (t122)) then (some (shl .u64 (shr .u64 (shr .u64 18446744073709551615 (ji25)) (IntKind.u64.wrap (t122))) (IntKind.u64.wrap (t122)))) else (none)) else (none)) = some r := by first | (rw [hji25] at H; exact H) | (simp only [hji25] at H ⊢; exact H)
      (try rw [hji25] at A9)
      (try rw [hji25] at A10)
      by_cases c26 : 0 ≤ (ji25)
      · rw [if_pos c26] at H
        have c26b0 := eq_true c26
        have c26b1 : decide (0 ≤ (ji25)) = true := decide_eq_true c26
        clear c26
        obtain ⟨ji27, hji27⟩ : ∃ j_ : Int, (shr .u64 18446744073709551615 (ji25)) = j_ := ⟨_, rfl⟩
        replace H : (if 0 ≤ (IntKind.u64.wrap (t122)) then (some (shl .u64 (shr .u64 (ji27) (IntKind.u64.wrap (t122))) (IntKind.u64.wrap (t122)))) else (none)) = some r := by first | (rw [hji27] at H; exact H) | (simp only [hji27] at H ⊢; exact H)
        (try rw [hji27] at A9)
        (try rw [hji27] at A10)
        have hji27_ : (18446744073709551615 / 2 ^ min (ji25).toNat 64) = ji27 := hji27
        have hji27z : (ji25) ≤ 64 → (18446744073709551615 / 2 ^ (ji25).toNat) = ji27 := shr_small hji27
        obtain ⟨ji28, hji28⟩ : ∃ j_ : Int, (IntKind.u64.wrap (t122)) = j_ := ⟨_, rfl⟩
        replace H : (if 0 ≤ (ji28) then (some (shl .u64 (shr .u64 (ji27) (ji28)) (ji28))) else (none)) = some r := by first | (rw [hji28] at H; exact H) | (simp only [hji28] at H ⊢; exact H)
        (try rw [hji28] at A9)
        (try rw [hji28] at A10)
        by_cases c29 : 0 ≤ (ji28)
        · rw [if_pos c29] at H
          have c29b0 := eq_true c29
          have c29b1 : decide (0 ≤ (ji28)) = true := decide_eq_true c29
          clear c29
          obtain ⟨ji30, hji30⟩ : ∃ j_ : Int, (shr .u64 (ji27) (ji28)) = j_ := ⟨_, rfl⟩
          replace H : (some (shl .u64 (ji30) (ji28))) = some r := by first | (rw [hji30] at H; exact H) | (simp only [hji30] at H ⊢; exact H)
          (try rw [hji30] at A9)
          (try rw [hji30] at A10)
          have hji30_ : ((ji27) / 2 ^ min (ji28).toNat 64) = ji30 := hji30
          have hji30z : (ji28) ≤ 64 → ((ji27) / 2 ^ (ji28).toNat) = ji30 := shr_small hji30
          have c31b0 := eq_true (of_decide_eq_true (by first | (with_reducible assumption) | assumption) : 0 ≤ (ji28))
          obtain ⟨ji32, hji32⟩ : ∃ j_ : Int, (shl .u64 (ji30) (ji28)) = j_ := ⟨_, rfl⟩
          replace H : (some ji32) = some r := by first | (rw [hji32] at H; exact H) | (simp only [hji32] at H ⊢; exact H)
          (try rw [hji32] at A9)
          (try rw [hji32] at A10)
          have hji32_ : (IntKind.u64.wrap ((ji30) * 2 ^ min (ji28).toNat 64)) = ji32 := hji32
          have hji32z : (ji28) ≤ 64 → (IntKind.u64.wrap ((ji30) * 2 ^ (ji28).toNat)) = ji32 := shl_small hji32
          obtain rfl := Option.some.inj H
          go_enter Try.func34, Try.ntmps34
          go_wp2_with (first | ((with_reducible refine gate_callee (f := 64) rfl ?_); refine goesL_ (some 21) rfl rfl Try.func64 (by kernel_rfl) rfl #[.int .i64 0, .int .i64 (wrap64 ((wrap64 ((wrap64 (2 * a6)) - a5)) - a4))] rfl (by (try simp only [List.map_toArray, List.map_cons, List.map_nil]); first | done | rfl | (simp only [List.length_drop, List.length_take]; rfl)) ?_; (with_reducible refine (spec_l00Max.calls 0 (wrap64 ((wrap64 ((wrap64 (2 * a6)) - a5)) - a4)) t122 _ A9.out).mono ?_); rintro e w' ⟨rfl, ⟨nd, rfl⟩⟩; refine ⟨_, rfl, ?_⟩) | ((with_reducible refine gate_callee (f := 60) rfl ?_); refine goesL_ (some 31) rfl rfl Try.func60 (by kernel_rfl) rfl #[.int .i64 63, .int .i64 (wrap64 ((wrap64 ((wrap64 (2 * a6)) - a5)) + a4))] rfl (by (try simp only [List.map_toArray, List.map_cons, List.map_nil]); first | done | rfl | (simp only [List.length_drop, List.length_take]; rfl)) ?_; (with_reducible refine (spec_l00Min.calls 63 (wrap64 ((wrap64 ((wrap64 (2 * a6)) - a5)) + a4)) t123 _ A10.out).mono ?_); rintro e w' ⟨rfl, ⟨nd, rfl⟩⟩; refine ⟨_, rfl, ?_⟩))
          go_ret
          exact ⟨by first | rfl | (simp; done) | (simp only [← hji25, ← hji27, ← hji28, ← hji30, ← hji32] <;> (first | rfl | simp)) | (simp [*]; done), by repeat (first | exact Drawn0.refl _ | apply Drawn0.step)⟩
        · rw [if_neg c29] at H
          exact absurd H (by simp)
      · rw [if_neg c26] at H
        exact absurd H (by simp)

end Go.Proofs.Ytkgeppbjfkhjcaa.XFnExactCheckReach
