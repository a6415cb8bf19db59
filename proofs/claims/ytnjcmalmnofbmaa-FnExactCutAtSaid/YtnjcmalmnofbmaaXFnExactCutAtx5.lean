/- Printed by this repository's own program (wip/tools/xprint.py) for the law FnExactCutAt: Lean functions that say what the Go functions compute, and the proofs that the machine comes to just that; no condition beyond those in each statement. -/
import Derived.Test.YtnjcmalmnofbmaaXFnExactCutAtx0
import Derived.Test.YtnjcmalmnofbmaaXFnExactCutAtx3
import Derived.Test.YtnjcmalmnofbmaaXFnExactCutAtx4
namespace Go.Proofs.Ytnjcmalmnofbmaa.XFnExactCutAt
open Go.RowKit Go.Proofs.YtnjcmalmnofbmaaW.PrintWords Go.Proofs.YtnjcmalmnofbmaaW.PrintLast Go.Proofs.YtnjcmalmnofbmaaW.PrintMore
attribute [local go_sem] max2_int min2_int max_two min_two max_three min_three max_four min_four   -- for this text's walks alone
set_option linter.unusedVariables false
set_option linter.unusedSimpArgs false

/-- A state of type 2 at block g of W; what its slices lead to came in by w0. -/
def IsS2 (w0 W : World) (g : Nat) (f0 : Int) : Prop := W.heap[g]? = some (.cells #[.int .i64 f0] 2 (0, 0)) ∧ w0.heap.size ≤ g
theorem IsS2.grown {w0 W : World} {g : Nat} {f0 : Int} {W1 : World} {row : Option Nat} (h : IsS2 w0 W g f0) (hw : W.grownBy W1 row) (hne : some g ≠ row) : IsS2 w0 W1 g f0 := by
  obtain ⟨hb, hg⟩ := h
  exact ⟨blk_grown hb hw hne, hg⟩
theorem IsS2.own_neN {w0 W : World} {g : Nat} {f0 : Int} {α : Type} {d : Kd α} {e : Nat} {base : Nat} {ok : Nat → Prop} {v : Value} {xs : List α} (h : IsS2 w0 W g f0) (ho : Kd.N d e W base ok v xs) (ht : e ≠ 2) : some g ≠ v.ownBlock := by
  obtain ⟨hb, hg⟩ := h
  exact Kd.N_ne ho hb ht
theorem IsS2.fresh {w0 W : World} {g : Nat} {f0 : Int} (h : IsS2 w0 W g f0) : ∀ k, W.heap.size ≤ k → k ≠ g := by
  obtain ⟨hb, hg⟩ := h
  exact Kd.freshB hb
theorem IsS2.kept {w0 W : World} {g : Nat} {f0 : Int} {W1 : World} {S : Nat → Prop} (h : IsS2 w0 W g f0) (hk : Kept W W1 S) (hne : ¬ S g) : IsS2 w0 W1 g f0 := by
  obtain ⟨hb, hg⟩ := h
  exact ⟨blk_kept hb hk hne, hg⟩
theorem IsS2.below {w0 W : World} {g : Nat} {f0 : Int} {W1 : World} (h : IsS2 w0 W g f0) (hw : Below W.heap.size W W1) : IsS2 w0 W1 g f0 := h.grown (grown_of_below hw none) (by simp)
theorem IsS2.alloc {w0 W : World} {g : Nat} {f0 : Int} (h : IsS2 w0 W g f0) (o : Obj) : IsS2 w0 (W.alloc o) g f0 := h.below (below_alloc (Below.refl _ _) o)
theorem IsS2.drewN {w0 W : World} {g : Nat} {f0 : Int} (h : IsS2 w0 W g f0) (m : Nat) : IsS2 w0 (W.drewN m) g f0 := h
theorem IsS2.drew {w0 W : World} {g : Nat} {f0 : Int} (h : IsS2 w0 W g f0) : IsS2 w0 W.drew g f0 := h
theorem IsS2.at_ {w0 W : World} {g : Nat} {f0 : Int} {w' : World} {m : Nat} (hq : W.drewN m = w') (h : IsS2 w0 W g f0) : IsS2 w0 w' g f0 := by subst hq; exact IsS2.drewN h m
theorem IsS2.apart {w0 W : World} {g : Nat} {f0 : Int} {α : Type} {d : Kd α} {e : Nat} {base : Nat} {ok : Nat → Prop} {v : Value} {xs : List α} (h : IsS2 w0 W g f0) (ho : d.R e W base ok v xs) (ht : ∀ q, q ∈ e :: d.E → q ≠ 2) : d.R e W base (fun k => ok k ∧ k ≠ g) v xs := by
  obtain ⟨hb, hg⟩ := h
  exact Kd.R_types ho hb ht
theorem IsS2.own_ne {w0 W : World} {g : Nat} {f0 : Int} {α : Type} {d : Kd α} {e : Nat} {base : Nat} {ok : Nat → Prop} {v : Value} {xs : List α} (h : IsS2 w0 W g f0) (ho : d.R e W base ok v xs) (ht : e ≠ 2) : some g ≠ v.ownBlock := by
  obtain ⟨hb, hg⟩ := h
  exact Kd.R_ne ho hb ht
theorem IsS2.apartQ {w0 W : World} {g : Nat} {f0 : Int} {α : Type} {d : Kd α} {e : Nat} {base : Nat} {ok : Nat → Prop} {v : Value} {xs : List α} (h : IsS2 w0 W g f0) (ho : d.Q e W base ok v xs) (ht : ∀ q, q ∈ e :: d.E → q ≠ 2) : d.Q e W base (fun k => ok k ∧ k ≠ g) v xs := by
  obtain ⟨hb, hg⟩ := h
  exact Kd.Q_types ho hb ht
theorem IsS2.own_neQ {w0 W : World} {g : Nat} {f0 : Int} {α : Type} {d : Kd α} {e : Nat} {base : Nat} {ok : Nat → Prop} {v : Value} {xs : List α} (h : IsS2 w0 W g f0) (ho : d.Q e W base ok v xs) (ht : e ≠ 2) : some g ≠ v.ownBlock := by
  obtain ⟨hb, hg⟩ := h
  exact Kd.Q_ne ho hb ht
theorem IsS2.apartS {w0 W : World} {g : Nat} {f0 : Int} {α : Type} {d : Kd α} {e : Nat} {base : Nat} {ok : Nat → Prop} {v : Value} {xs : List α} (h : IsS2 w0 W g f0) (ho : d.S e W base ok v xs) (ht : ∀ q, q ∈ e :: d.E → q ≠ 2) : d.S e W base (fun k => ok k ∧ k ≠ g) v xs := by
  obtain ⟨hb, hg⟩ := h
  exact Kd.S_types ho hb ht
theorem IsS2.own_neS {w0 W : World} {g : Nat} {f0 : Int} {α : Type} {d : Kd α} {e : Nat} {base : Nat} {ok : Nat → Prop} {v : Value} {xs : List α} (h : IsS2 w0 W g f0) (ho : d.S e W base ok v xs) (ht : e ≠ 2) : some g ≠ v.ownBlock := by
  obtain ⟨hb, hg⟩ := h
  exact Kd.S_ne ho hb ht
theorem IsS2.lt {w0 W : World} {g : Nat} {f0 : Int} (h : IsS2 w0 W g f0) : g < W.heap.size := by
  obtain ⟨hb, hg⟩ := h
  exact blk_lt hb
theorem IsS2.ge {w0 W : World} {g : Nat} {f0 : Int} (h : IsS2 w0 W g f0) : w0.heap.size ≤ g := by
  obtain ⟨hb, hg⟩ := h
  exact hg
theorem IsS2.ne_blk {w0 W : World} {g : Nat} {f0 : Int} {a : Nat} {cs : Array Value} {t : TypeId} {fr : Nat × Nat} (h : IsS2 w0 W g f0) (hb2 : W.heap[a]? = some (.cells cs t fr)) (ht : t ≠ 2) : g ≠ a := by
  obtain ⟨hb, hg⟩ := h
  rintro rfl
  rw [hb] at hb2
  injection hb2 with hb2
  injection hb2 with _ ht2
  exact ht ht2.symm
theorem IsS2.far {w0 W : World} {g : Nat} {f0 : Int} {p : Addr} (h : IsS2 w0 W g f0) (hne : g ≠ p.block) (u : Value) : IsS2 w0 (W.setCell p u) g f0 := by
  obtain ⟨hb, hg⟩ := h
  exact ⟨blk_far hb hne u, hg⟩
theorem cellS2_0 {W : World} {g : Nat} {f0 : Int} (h : W.heap[g]? = some (.cells #[.int .i64 f0] 2 (0, 0))) : W.cell? ⟨g, 0, none⟩ = some (.int .i64 f0) := (blk_cell h 0).trans rfl
theorem IsS2.set_0 {w0 W : World} {g : Nat} {f0 : Int} (h : IsS2 w0 W g f0) (x : Int) : IsS2 w0 (W.setCell ⟨g, 0, none⟩ (.int .i64 x)) g x := by
  obtain ⟨hb, hg⟩ := h
  exact ⟨by simpa using blk_set hb 0 (.int .i64 x), hg⟩
theorem IsS2.new (w0 W : World) (f0 : Int) (hB : Below w0.heap.size w0 W) : IsS2 w0 (W.alloc (.cells #[.int .i64 f0] 2)) W.heap.size f0 := ⟨by simpa using heap_alloc_new W _, hB.size⟩

/-! ### impl_Cam_cut_c1: function 173 -/
def impl_Cam_cut_c1.f (a0 : Int) (a1 : Int) (l2 : List Int) (a3 : Int) (s4_0 : Int) : Option (Int × List Int) := (impl_Cam_steps.f l2).bind fun t179 => ((impl_mod.f a0 t179).bind fun t180 => (if 0 ≤ t180 then (if t180 < (l2.length : Int) then (if (wrap64 (rd l2 t180)) > (wrap64 (a3 + a1)) then (some (wrap64 (s4_0 + (wrap64 ((wrap64 (rd l2 t180)) - (wrap64 (a3 + a1))))), (l2.set (t180 : Int).toNat (IntKind.i16.wrap (wrap64 (a3 + a1)))))) else (some (s4_0, l2))) else (none)) else (none)))
def impl_Cam_cut_c1.T3 : Bool × List (List Nat × List Nat) := (true, [([], []), ([], []), ([], []), ([1, 2], [1, 2]), ([3], [3]), ([4], [4]), ([], []), ([5, 6], [5, 6]), ([0, 7], [0, 7]), ([8, 0, 1, 2, 3, 4, 5, 6, 7, 8], [8])])
def impl_Cam_cut_c1.B3 : List Nat := [0, 0, 0, 6, 14, 30, 0, 126, 255, 511]
theorem impl_Cam_cut_c1.tab3 : rtab .any (opsOf Try.f173 3) = impl_Cam_cut_c1.T3 := by kernel_rfl
theorem impl_Cam_cut_c1.bits3 : waitsOk impl_Cam_cut_c1.T3.2 impl_Cam_cut_c1.B3 = true := by kernel_rfl
set_option maxHeartbeats 8000000 in
set_option maxRecDepth 100000 in
theorem impl_Cam_cut_c1.calls {q2_ q3_ : Nat} (a0 : Int) (a1 : Int) (P2_ : Nat → Prop) (u9000_ : Value) (l2 : List Int) (a3 : Int) (g : Nat) (s4_0 : Int) (r1 : Int) (r2 : List Int) (w0 w : World) (hI : IsS2 w0 w g s4_0) (hB : Below w0.heap.size w0 w) (ho2 : Kd.R (Kd.int .i16) 38 w w0.heap.size P2_ u9000_ l2) (hq2_ : ∀ W_, Kept w W_ (fun k_ => (P2_ k_) ∨ k_ = g) → W_.cell? ⟨q2_, 0, none⟩ = some (u9000_)) (hq3_ : ∀ W_, Kept w W_ (fun k_ => (P2_ k_) ∨ k_ = g) → W_.cell? ⟨q3_, 0, none⟩ = some (.int .i64 a3)) (h : impl_Cam_cut_c1.f a0 a1 l2 a3 s4_0 = some (r1, r2)) :
    Calls Try.prog 173 #[.int .i64 a0, .int .i64 a1, .pointer (some ⟨q2_, 0, none⟩), .pointer (some ⟨q3_, 0, none⟩), .pointer (some ⟨g, 0, none⟩)] w fun e w' => e = .returned (.tuple #[]) ∧ IsS2 w0 w' g r1 ∧ Kd.R (Kd.int .i16) 38 w' w0.heap.size (fun k_ => (P2_ k_ ∨ w.heap.size ≤ k_)) u9000_ r2 ∧ Below w0.heap.size w0 w' ∧ Kept w w' (fun k_ => (P2_ k_) ∨ k_ = g) := by
  have HO2 := Aside0.mk (show Kd.R (Kd.int .i16) 38 w w0.heap.size (fun k_ => (P2_ k_ ∨ w.heap.size ≤ k_)) u9000_ l2 from Kd.R_mono ho2 (fun k_ hk => (.inl hk)))
  have HQ2_ := Aside0.mk hq2_
  have HQ3_ := Aside0.mk hq3_
  have hq2r_ := hq2_ w (Kept.refl _ _)
  have hq3r_ := hq3_ w (Kept.refl _ _)
  have HI4 := Aside0.mk hI
  have HL := Aside0.mk hB.size
  clear hI
  have HK := Aside0.mk (Kept.refl w (fun k_ => (P2_ k_) ∨ k_ = g))
  have HW0 := Aside0.mk hB.size
  have HB := Aside0.mk hB
  clear hB
  have H : ((impl_Cam_steps.f l2).bind fun t179 => ((impl_mod.f a0 t179).bind fun t180 => (if 0 ≤ t180 then (if t180 < (l2.length : Int) then (if (wrap64 (rd l2 t180)) > (wrap64 (a3 + a1)) then (some (wrap64 (s4_0 + (wrap64 ((wrap64 (rd l2 t180)) - (wrap64 (a3 + a1))))), (l2.set (t180 : Int).toNat (IntKind.i16.wrap (wrap64 (a3 + a1)))))) else (some (s4_0, l2))) else (none)) else (none)))) = some (r1, r2) := h
  clear h
  replace H := Option.bind_eq_some_iff.mp H
  obtain ⟨t179, A60, H⟩ := H
  replace H : ((impl_mod.f a0 t179).bind fun t180 => (if 0 ≤ t180 then (if t180 < (l2.length : Int) then (if (wrap64 (rd l2 t180)) > (wrap64 (a3 + a1)) then (some (wrap64 (s4_0 + (wrap64 ((wrap64 (rd l2 t180)) - (wrap64 (a3 + a1))))), (l2.set (t180 : Int).toNat (IntKind.i16.wrap (wrap64 (a3 + a1)))))) else (some (s4_0, l2))) else (none)) else (none))) = some (r1, r2) := H
  have A6 := Aside0.mk A60
  clear A60
  replace H := Option.bind_eq_some_iff.mp H
  obtain ⟨t180, A70, H⟩ := H
  replace H : (if 0 ≤ t180 then (if t180 < (l2.length : Int) then (if (wrap64 (rd l2 t180)) > (wrap64 (a3 + a1)) then (some (wrap64 (s4_0 + (wrap64 ((wrap64 (rd l2 t180)) - (wrap64 (a3 + a1))))), (l2.set (t180 : Int).toNat (IntKind.i16.wrap (wrap64 (a3 + a1)))))) else (some (s4_0, l2))) else (none)) else (none)) = some (r1, r2) := H
  have A7 := Aside0.mk A70
  clear A70
  by_cases c8 : 0 ≤ t180
  · rw [if_pos c8] at H
    have c8b0 : decide (0 ≤ t180) = true := decide_eq_true c8
    clear c8
    by_cases c9 : t180 < (l2.length : Int)
    · rw [if_pos c9] at H
      have c9b0 : decide (t180 < (l2.length : Int)) = true := decide_eq_true c9
      clear c9
      by_cases c10 : (wrap64 (rd l2 t180)) > (wrap64 (a3 + a1))
      · rw [if_pos c10] at H
        have c10b0 : decide ((wrap64 (a3 + a1)) < (wrap64 (rd l2 t180))) = true := decide_eq_true c10
        clear c10
        obtain ⟨y183, hy183⟩ : ∃ y_ : List Int, y_ = (l2.set (t180 : Int).toNat (IntKind.i16.wrap (wrap64 (a3 + a1)))) := ⟨_, rfl⟩
        replace H : (some (wrap64 (s4_0 + (wrap64 ((wrap64 (rd l2 t180)) - (wrap64 (a3 + a1))))), y183)) = some (r1, r2) := by first | (rw [hy183]; with_reducible exact H) | (have H2_ := (Option.bind_some _ _).symm.trans H; rw [hy183]; with_reducible exact H2_) | (have H2_ := (Option.bind_some _ _).symm.trans H; with_reducible exact H2_) | with_reducible exact H | (rw [hy183]; exact H) | exact H
        have Ny183 := Aside0.mk hy183
        clear hy183
        simp only [Option.some.injEq, Prod.mk.injEq] at H
        obtain ⟨rfl, rfl⟩ := H
        obtain ⟨Ao12, co12, eo12⟩ := Kd.R_slice HO2.out
        subst eo12
        go_enter Try.func173, Try.ntmps173
        try go_wp2_with (first | ((with_reducible refine gate_callee (f := 140) rfl ?_); refine goesL_ (some 11) rfl rfl Try.func140 (by kernel_rfl) rfl #[.slice Ao12 l2.length co12] rfl (by (try simp only [List.map_toArray, List.map_cons, List.map_nil]); first | done | rfl | (simp only [List.length_drop, List.length_take]; rfl)) ?_; (with_reducible refine (impl_Cam_steps.calls _ _ l2 t179 _ ?side1 ?side2 A6.out).mono ?_); (case side1 => repeat (first | exact (Kd.R_reads' HO2.out).2.2 | (with_reducible refine Kd.C_alloc ?_ _) | (with_reducible refine Kd.C_drewN ?_ _) | (with_reducible refine Kd.C_drew ?_))); (case side2 => exact (Kd.R_reads' HO2.out).2.1); rintro e w' ⟨rfl, ⟨nd, rfl⟩⟩; refine ⟨_, rfl, ?_⟩; (try rw [World.drewN_drewN]); (try rw [World.drewN_drewN]); (try rw [World.drewN_drewN]); (try (rw [drewN_self w]; generalize hq_ : World.drewN w _ = w13; have n0_ : Aside0 (Kd.R (Kd.int .i16) 38 w13 w0.heap.size (fun k_ => (P2_ k_ ∨ w.heap.size ≤ k_)) (.slice Ao12 l2.length co12) l2) := ⟨by rw [← hq_]; exact (by (with_reducible repeat (first | apply Kd.R_alloc | apply Kd.R_drewN | apply Kd.R_drew)); exact HO2.out)⟩; have n1_ : Aside0 (IsS2 w0 w13 g s4_0) := ⟨by rw [← hq_]; exact (by repeat (first | (with_reducible first | exact HI4.out | apply IsS2.alloc | apply IsS2.drewN | apply IsS2.drew | apply IsS2.set_0) | exact HI4.out | (simp only [Int.add_zero])))⟩; have n2_ : Aside0 (Kept w w13 (fun k_ => (P2_ k_) ∨ k_ = g)) := ⟨by rw [← hq_]; exact (by repeat (first | (with_reducible first | exact HK.out | apply Kept.alloc | apply Kept.drewN | apply Kept.drew | refine Kept.setCell ?_ (.inl (.inr rfl)) _) | exact HK.out))⟩; have n3_ : Aside0 (Below w0.heap.size w0 w13) := ⟨by rw [← hq_]; exact (by repeat (first | (with_reducible first | exact HB.out | apply below_alloc | apply pw_below_drewN | apply below_drew1 | refine below_set ?_ (IsS2.ge HI4.out)) | exact HB.out))⟩; clear HO2 HI4 HK HB hq_; have HO2 := n0_; have HI4 := n1_; have HK := n2_; have HB := n3_; clear n0_ n1_ n2_ n3_; (try clear hq2r_); (try clear hq3r_); have hq2r_ := HQ2_.out _ HK.out; have hq3r_ := HQ3_.out _ HK.out))) | ((with_reducible refine gate_callee (f := 174) rfl ?_); refine goesL_ (some 12) rfl rfl Try.func174 (by kernel_rfl) rfl #[.int .i64 a0, .int .i64 t179] rfl (by (try simp only [List.map_toArray, List.map_cons, List.map_nil]); first | done | rfl | (simp only [List.length_drop, List.length_take]; rfl)) ?_; (with_reducible refine (impl_mod.calls a0 t179 t180 _ A7.out).mono ?_); rintro e w' ⟨rfl, ⟨nd, rfl⟩⟩; refine ⟨_, rfl, ?_⟩; (try rw [World.drewN_drewN]); (try rw [World.drewN_drewN]); (try rw [World.drewN_drewN]); (try (rw [drewN_self w13]; generalize hq_ : World.drewN w13 _ = w13; have n0_ : Aside0 (Kd.R (Kd.int .i16) 38 w13 w0.heap.size (fun k_ => (P2_ k_ ∨ w.heap.size ≤ k_)) (.slice Ao12 l2.length co12) l2) := ⟨by rw [← hq_]; exact (by (with_reducible repeat (first | apply Kd.R_alloc | apply Kd.R_drewN | apply Kd.R_drew)); exact HO2.out)⟩; have n1_ : Aside0 (IsS2 w0 w13 g s4_0) := ⟨by rw [← hq_]; exact (by repeat (first | (with_reducible first | exact HI4.out | apply IsS2.alloc | apply IsS2.drewN | apply IsS2.drew | apply IsS2.set_0) | exact HI4.out | (simp only [Int.add_zero])))⟩; have n2_ : Aside0 (Kept w w13 (fun k_ => (P2_ k_) ∨ k_ = g)) := ⟨by rw [← hq_]; exact (by repeat (first | (with_reducible first | exact HK.out | apply Kept.alloc | apply Kept.drewN | apply Kept.drew | refine Kept.setCell ?_ (.inl (.inr rfl)) _) | exact HK.out))⟩; have n3_ : Aside0 (Below w0.heap.size w0 w13) := ⟨by rw [← hq_]; exact (by repeat (first | (with_reducible first | exact HB.out | apply below_alloc | apply pw_below_drewN | apply below_drew1 | refine below_set ?_ (IsS2.ge HI4.out)) | exact HB.out))⟩; clear HO2 HI4 HK HB hq_; have HO2 := n0_; have HI4 := n1_; have HK := n2_; have HB := n3_; clear n0_ n1_ n2_ n3_; (try clear hq2r_); (try clear hq3r_); have hq2r_ := HQ2_.out _ HK.out; have hq3r_ := HQ3_.out _ HK.out)); have p181 : 0 ≤ (t180 : Int) := of_decide_eq_true (by first | (with_reducible assumption) | assumption); have q181 : t180 < (l2.length : Int) := of_decide_eq_true (by first | (with_reducible assumption) | assumption); obtain ⟨ad181, e181, hx181_0⟩ := Kd.at_int (Kd.R_reads' HO2.out).2.2 t180 p181 q181; cases e181; replace p181 := eq_true p181; replace q181 := eq_true q181))
        have n0_ := Aside0.mk (Kd.R_drew HO2.out)
        have n1_ := Aside0.mk (IsS2.drew HI4.out)
        have n2_ := Aside0.mk (Kept.drew HK.out)
        have n3_ := Aside0.mk (below_drew1 HB.out)
        clear HO2
        clear HI4
        clear HK
        clear HB
        have HO2 := n0_
        have HI4 := n1_
        have HK := n2_
        have HB := n3_
        clear n0_ n1_ n2_ n3_
        (try clear hq2r_)
        (try clear hq3r_)
        have hq2r_ := HQ2_.out _ HK.out
        have hq3r_ := HQ3_.out _ HK.out
        have p182 : 0 ≤ (t180 : Int) := of_decide_eq_true (by first | (with_reducible assumption) | assumption)
        have q182 : t180 < (l2.length : Int) := of_decide_eq_true (by first | (with_reducible assumption) | assumption)
        obtain ⟨ad182, e182, hx182_0⟩ := Kd.at_int (Kd.R_reads' HO2.out).2.2 t180 p182 q182
        obtain rfl : ad181 = ad182 := (by injection e182)
        replace p182 := eq_true p182
        replace q182 := eq_true q182
        refine start_ (n := 10) (S := fun w' => w'.cell? ⟨g, 0, none⟩ = some (.int .i64 s4_0) ∧ w'.cell? (ad181.add (t180).toNat) = some (.int .i16 (rd l2 t180)) ∧ w'.cell? ⟨q2_, 0, none⟩ = some (.slice (some ad181) l2.length co12) ∧ w'.cell? ⟨q3_, 0, none⟩ = some (.int .i64 a3)) (ds := [9]) #[false, false, false, false, false, false, false, false, false, false] (by kernel_rfl) rfl rfl ⟨(cellS2_0 (by obtain ⟨hb_, _⟩ := HI4.out; exact hb_)), hx182_0, (HQ2_.out _ HK.out), (HQ3_.out _ HK.out)⟩ (fun hHeld => ?_); refine with_tabW impl_Cam_cut_c1.tab3 impl_Cam_cut_c1.bits3 (fun HT_ HW_ => ?_)
        generalize w13.drew = w14 at HO2 HI4 HK HB hx182_0 hHeld ⊢
        refine pure_ (i := 2) (N := some 25) (v := ?_) (a' := ?_) #[false, false, true, false, false, false, false, false, false, false] rfl rfl (any_of HT_.out (by kernel_rfl)) (fun _ _ _ h => h) (Or.inl ⟨by rfl, ?_⟩) ?_ ?_
        rotate_left
        · intro w'
          go_simp
          with_reducible rfl
        rotate_left
        · simp only [Act.put, List.setIfInBounds_toArray, List.set_cons_zero, List.set_cons_succ, i64_w, i32_w]
          rfl
        refine pure_ (i := 6) (N := some 29) (v := ?_) (a' := ?_) #[false, false, true, false, false, false, true, false, false, false] rfl rfl (any_of HT_.out (by kernel_rfl)) (fun _ _ _ h => h) (Or.inl ⟨by rfl, ?_⟩) ?_ ?_
        rotate_left
        · intro w'
          go_simp
          with_reducible rfl
        rotate_left
        · simp only [Act.put, List.setIfInBounds_toArray, List.set_cons_zero, List.set_cons_succ, i64_w, i32_w]
          rfl
        refine take_ (i := 0) (N := some 23) (v := ?_) (a' := ?_) #[true, false, true, false, false, false, true, false, false, false] rfl rfl (take_ofW HT_.out HW_.out (by kernel_rfl)) (fun _ _ _ h => h) (Or.inl ⟨by rfl, ?_⟩) hHeld ?_ ?_
        rotate_left
        · rintro w' ⟨s0, s1, s2, s3⟩
          go_simp
          with_reducible rfl
        rotate_left
        · simp only [Act.put, List.setIfInBounds_toArray, List.set_cons_zero, List.set_cons_succ, i64_w, i32_w]
          rfl
        refine take_ (i := 1) (N := some 24) (v := ?_) (a' := ?_) #[true, true, true, false, false, false, true, false, false, false] rfl rfl (take_ofW HT_.out HW_.out (by kernel_rfl)) (fun _ _ _ h => h) (Or.inl ⟨by rfl, ?_⟩) hHeld ?_ ?_
        rotate_left
        · rintro w' ⟨s0, s1, s2, s3⟩
          go_simp
          with_reducible rfl
        rotate_left
        · simp only [Act.put, List.setIfInBounds_toArray, List.set_cons_zero, List.set_cons_succ, i64_w, i32_w]
          rfl
        refine pure_ (i := 3) (N := some 26) (v := ?_) (a' := ?_) #[true, true, true, true, false, false, true, false, false, false] rfl rfl (any_of HT_.out (by kernel_rfl)) (fun _ _ _ h => h) (Or.inl ⟨by rfl, ?_⟩) ?_ ?_
        rotate_left
        · intro w'
          go_simp
          with_reducible rfl
        rotate_left
        · simp only [Act.put, List.setIfInBounds_toArray, List.set_cons_zero, List.set_cons_succ, i64_w, i32_w]
          rfl
        refine take_ (i := 4) (N := some 27) (v := ?_) (a' := ?_) #[true, true, true, true, true, false, true, false, false, false] rfl rfl (take_ofW HT_.out HW_.out (by kernel_rfl)) (fun _ _ _ h => h) (Or.inl ⟨by rfl, ?_⟩) hHeld ?_ ?_
        rotate_left
        · rintro w' ⟨s0, s1, s2, s3⟩
          go_simp
          with_reducible rfl
        rotate_left
        · simp only [Act.put, List.setIfInBounds_toArray, List.set_cons_zero, List.set_cons_succ, i64_w, i32_w]
          rfl
        refine pure_ (i := 5) (N := some 28) (v := ?_) (a' := ?_) #[true, true, true, true, true, true, true, false, false, false] rfl rfl (any_of HT_.out (by kernel_rfl)) (fun _ _ _ h => h) (Or.inl ⟨by rfl, ?_⟩) ?_ ?_
        rotate_left
        · intro w'
          go_simp
          with_reducible rfl
        rotate_left
        · simp only [Act.put, List.setIfInBounds_toArray, List.set_cons_zero, List.set_cons_succ, i64_w, i32_w]
          rfl
        refine pure_ (i := 7) (N := some 30) (v := ?_) (a' := ?_) #[true, true, true, true, true, true, true, true, false, false] rfl rfl (any_of HT_.out (by kernel_rfl)) (fun _ _ _ h => h) (Or.inl ⟨by rfl, ?_⟩) ?_ ?_
        rotate_left
        · intro w'
          go_simp
          with_reducible rfl
        rotate_left
        · simp only [Act.put, List.setIfInBounds_toArray, List.set_cons_zero, List.set_cons_succ, i64_w, i32_w]
          rfl
        refine pure_ (i := 8) (N := some 31) (v := ?_) (a' := ?_) #[true, true, true, true, true, true, true, true, true, false] rfl rfl (any_of HT_.out (by kernel_rfl)) (fun _ _ _ h => h) (Or.inl ⟨by rfl, ?_⟩) ?_ ?_
        rotate_left
        · intro w'
          go_simp
          with_reducible rfl
        rotate_left
        · simp only [Act.put, List.setIfInBounds_toArray, List.set_cons_zero, List.set_cons_succ, i64_w, i32_w]
          rfl
        refine last_ (i := 9) (N := none) #[true, true, true, true, true, true, true, true, true, true] rfl rfl (one_of HT_.out (by kernel_rfl)) (by decide) (fun K hK => ?_)
        obtain ⟨hbz_, hgz_⟩ := HI4.out
        have hfz_ := blk_frozen hbz_ 0
        refine skip_ (w1 := ?_) (by rfl) rfl ?_ ?_
        rotate_left
        · go_simp
          rfl
        refine hK.out _ _ ?_
        clear hK K
        refine done_ (done_of HT_.out (by kernel_rfl)) ?_
        have n0_ : Aside0 (Kd.R (Kd.int .i16) 38 (w14.setCell ⟨g, 0, none⟩ (.int .i64 (wrap64 (s4_0 + (wrap64 ((wrap64 (rd l2 t180)) - (wrap64 (a3 + a1)))))))) w0.heap.size (fun k_ => (P2_ k_ ∨ w.heap.size ≤ k_)) (.slice (some ad181) l2.length co12) l2) := ⟨by (with_reducible repeat (first | apply Kd.R_alloc | apply Kd.R_drewN | apply Kd.R_drew)); exact Kd.R_mono (Kd.R_far (p := ⟨g, 0, none⟩) (IsS2.apart HI4.out HO2.out (by decide)) (fun _ hk => hk.2) (.int .i64 (wrap64 (s4_0 + (wrap64 ((wrap64 (rd l2 t180)) - (wrap64 (a3 + a1)))))))) (fun _ hk => hk.1)⟩
        have n1_ : Aside0 (IsS2 w0 (w14.setCell ⟨g, 0, none⟩ (.int .i64 (wrap64 (s4_0 + (wrap64 ((wrap64 (rd l2 t180)) - (wrap64 (a3 + a1)))))))) g (wrap64 (s4_0 + (wrap64 ((wrap64 (rd l2 t180)) - (wrap64 (a3 + a1))))))) := ⟨by repeat (first | (with_reducible first | exact HI4.out | apply IsS2.alloc | apply IsS2.drewN | apply IsS2.drew | apply IsS2.set_0) | exact HI4.out | (simp only [Int.add_zero]))⟩
        have n2_ : Aside0 (Kept w (w14.setCell ⟨g, 0, none⟩ (.int .i64 (wrap64 (s4_0 + (wrap64 ((wrap64 (rd l2 t180)) - (wrap64 (a3 + a1)))))))) (fun k_ => (P2_ k_) ∨ k_ = g)) := ⟨by repeat (first | (with_reducible first | exact HK.out | apply Kept.alloc | apply Kept.drewN | apply Kept.drew | refine Kept.setCell ?_ (.inl (.inr rfl)) _) | exact HK.out)⟩
        have n3_ : Aside0 (Below w0.heap.size w0 (w14.setCell ⟨g, 0, none⟩ (.int .i64 (wrap64 (s4_0 + (wrap64 ((wrap64 (rd l2 t180)) - (wrap64 (a3 + a1))))))))) := ⟨by repeat (first | (with_reducible first | exact HB.out | apply below_alloc | apply pw_below_drewN | apply below_drew1 | refine below_set ?_ (IsS2.ge HI4.out)) | exact HB.out)⟩
        (try clear HO2)
        (try clear HI4)
        (try clear HK)
        (try clear HB)
        generalize (w14.setCell ⟨g, 0, none⟩ (.int .i64 (wrap64 (s4_0 + (wrap64 ((wrap64 (rd l2 t180)) - (wrap64 (a3 + a1)))))))) = w15 at n0_ n1_ n2_ n3_ ⊢
        have HO2 := n0_
        have HI4 := n1_
        have HK := n2_
        have HB := n3_
        clear n0_ n1_ n2_ n3_
        (try clear hq2r_)
        (try clear hq3r_)
        have hq2r_ := HQ2_.out _ HK.out
        have hq3r_ := HQ3_.out _ HK.out
        have p11 : 0 ≤ (t180 : Int) := of_decide_eq_true (by first | (with_reducible assumption) | assumption)
        have q11 : (t180 : Int) < ((l2.length : Int) : Int) := of_decide_eq_true (by first | (with_reducible assumption) | assumption)
        obtain ⟨go11, co11, eo11, gb11, gl11, cl11, HG11⟩ := Kd.R_form HO2.out (by omega)
        (first | cases eo11 | (injection eo11 with ea_ en_ ec_; (first | subst ea_ | (injection ea_ with ea_; subst ea_)); subst ec_; clear en_))
        have GB11 := Aside0.mk gb11
        have GG11 := Aside0.mk HG11
        clear gb11 gl11 HG11
        have HMgo11 := Aside0.mk (show (P2_ go11 ∨ w.heap.size ≤ go11) from (HO2.out.1 _ rfl))
        (first | simp only [add_plain] at hx181_0 | skip)
        (first | simp only [add_plain] at hx182_0 | skip)
        obtain ⟨hx11_0, hf11_0⟩ := Kd.R_celln 0 HO2.out (t180 : Int) p11 q11
        replace p11 := eq_true p11
        replace q11 := eq_true q11
        obtain ⟨hy16_, hz16_⟩ := Kd.R_celln 0 HO2.out (t180 : Int) (of_decide_eq_true (by first | (with_reducible assumption) | assumption)) (of_decide_eq_true (by first | (with_reducible assumption) | assumption))
        have HP16 := Kd.R_putg HO2.out (t180 : Int) (IntKind.i16.wrap (wrap64 (a3 + a1)))
        try go_wp2_with (first | ((with_reducible refine gate_store (t := 38) (p := 36) rfl ?_); refine store_event (t := 38) (p := 36) (v := ?vo_w17) (w1 := (w15.setCell ⟨go11, (t180 : Int).toNat, none⟩ (.int .i16 (IntKind.i16.wrap (wrap64 (a3 + a1)))))) ?hg ?ho ?hn ?hr ?_; (case ho => rfl); (case hg => rfl); (case hn => rfl); (case hr => first | (go_simp; done) | (go_simp; rfl)); intro w17 hw; have hg : w15.grownBy w17 (some go11) := (by rw [hw]; exact HP16.2); have hp_ : Kd.R (Kd.int .i16) 38 w17 w0.heap.size (fun k_ => (P2_ k_ ∨ w.heap.size ≤ k_)) (.slice (some ⟨go11, 0, none⟩) l2.length co12) y183 := (by rw [hw, Ny183.out]; exact HP16.1); clear HP16; have n0_ := Aside0.mk (IsS2.grown (by repeat (first | (with_reducible first | exact HI4.out | apply IsS2.alloc | apply IsS2.drewN | apply IsS2.drew | apply IsS2.set_0) | exact HI4.out | (simp only [Int.add_zero]))) hg (IsS2.own_ne HI4.out HO2.out (by decide))); have n1_ := Aside0.mk (hp_); have n2_ := Aside0.mk ((by rw [hw]; exact below_set (HB.out) GB11.out : Below w0.heap.size w0 w17)); have n3_ := Aside0.mk (Kept.of_grown (S := (fun k_ => (P2_ k_) ∨ k_ = g)) hg (by repeat (first | (with_reducible first | exact HK.out | apply Kept.alloc | apply Kept.drewN | apply Kept.drew | refine Kept.setCell ?_ (.inl (.inr rfl)) _) | exact HK.out)) (fun k_ e_ => Or.imp_left Or.inl ((HO2.out.1 k_ e_)))); clear HI4; clear HO2; clear HB; clear HK; have HI4 := n0_; have HO2 := n1_; have HB := n2_; have HK := n3_; clear n0_ n1_ n2_ n3_; (try clear hq2r_); (try clear hq3r_); have hq2r_ := HQ2_.out _ HK.out; have hq3r_ := HQ3_.out _ HK.out; clear hg hw hp_))
        first | go_end0 | ((try simp only [Exit.inBlock, Exit.then]); refine bodyPost_ret (results_none rfl _ _ _) rfl ?_)
        exact ⟨by first | rfl | (simp [errW_none, errW_some] <;> rfl) | (simp [*, errW_none, errW_some] <;> rfl), by repeat (first | (with_reducible first | exact HI4.out | apply IsS2.alloc | apply IsS2.drewN | apply IsS2.drew | apply IsS2.set_0) | exact HI4.out | (simp only [Int.add_zero])), by (with_reducible repeat (first | apply Kd.R_alloc | apply Kd.R_drewN | apply Kd.R_drew)); exact HO2.out, by repeat (first | (with_reducible first | exact HB.out | apply below_alloc | apply pw_below_drewN | apply below_drew1 | refine below_set ?_ (IsS2.ge HI4.out)) | exact HB.out), by repeat (first | (with_reducible first | exact HK.out | apply Kept.alloc | apply Kept.drewN | apply Kept.drew | refine Kept.setCell ?_ (.inl (.inr rfl)) _) | exact HK.out)⟩
      · rw [if_neg c10] at H
        have c10b0 : decide ((wrap64 (a3 + a1)) < (wrap64 (rd l2 t180))) = false := decide_eq_false c10
        clear c10
        simp only [Option.some.injEq, Prod.mk.injEq] at H
        obtain ⟨rfl, rfl⟩ := H
        obtain ⟨Ao18, co18, eo18⟩ := Kd.R_slice HO2.out
        subst eo18
        go_enter Try.func173, Try.ntmps173
        go_wp2_with (first | ((with_reducible refine gate_callee (f := 140) rfl ?_); refine goesL_ (some 11) rfl rfl Try.func140 (by kernel_rfl) rfl #[.slice Ao18 l2.length co18] rfl (by (try simp only [List.map_toArray, List.map_cons, List.map_nil]); first | done | rfl | (simp only [List.length_drop, List.length_take]; rfl)) ?_; (with_reducible refine (impl_Cam_steps.calls _ _ l2 t179 _ ?side1 ?side2 A6.out).mono ?_); (case side1 => repeat (first | exact (Kd.R_reads' HO2.out).2.2 | (with_reducible refine Kd.C_alloc ?_ _) | (with_reducible refine Kd.C_drewN ?_ _) | (with_reducible refine Kd.C_drew ?_))); (case side2 => exact (Kd.R_reads' HO2.out).2.1); rintro e w' ⟨rfl, ⟨nd, rfl⟩⟩; refine ⟨_, rfl, ?_⟩) | ((with_reducible refine gate_callee (f := 174) rfl ?_); refine goesL_ (some 12) rfl rfl Try.func174 (by kernel_rfl) rfl #[.int .i64 a0, .int .i64 t179] rfl (by (try simp only [List.map_toArray, List.map_cons, List.map_nil]); first | done | rfl | (simp only [List.length_drop, List.length_take]; rfl)) ?_; (with_reducible refine (impl_mod.calls a0 t179 t180 _ A7.out).mono ?_); rintro e w' ⟨rfl, ⟨nd, rfl⟩⟩; refine ⟨_, rfl, ?_⟩; have p181 : 0 ≤ (t180 : Int) := of_decide_eq_true (by first | (with_reducible assumption) | assumption); have q181 : t180 < (l2.length : Int) := of_decide_eq_true (by first | (with_reducible assumption) | assumption); obtain ⟨ad181, e181, hx181_0⟩ := Kd.at_int (Kd.R_reads' HO2.out).2.2 t180 p181 q181; cases e181; replace p181 := eq_true p181; replace q181 := eq_true q181))
        first | go_end0 | ((try simp only [Exit.inBlock, Exit.then]); refine bodyPost_ret (results_none rfl _ _ _) rfl ?_)
        exact ⟨by first | rfl | (simp [errW_none, errW_some] <;> rfl) | (simp [*, errW_none, errW_some] <;> rfl), by repeat (first | (with_reducible first | exact HI4.out | apply IsS2.alloc | apply IsS2.drewN | apply IsS2.drew | apply IsS2.set_0) | exact HI4.out | (simp only [Int.add_zero])), by (with_reducible repeat (first | apply Kd.R_alloc | apply Kd.R_drewN | apply Kd.R_drew)); exact HO2.out, by repeat (first | (with_reducible first | exact HB.out | apply below_alloc | apply pw_below_drewN | apply below_drew1 | refine below_set ?_ (IsS2.ge HI4.out)) | exact HB.out), by repeat (first | (with_reducible first | exact HK.out | apply Kept.alloc | apply Kept.drewN | apply Kept.drew | refine Kept.setCell ?_ (.inl (.inr rfl)) _) | exact HK.out)⟩
    · rw [if_neg c9] at H
      exact absurd H (by simp)
  · rw [if_neg c8] at H
    exact absurd H (by simp)

/-! ### impl_Cutter_each_at_impl_Cam_cut_c1: function 213 -/
def impl_Cutter_each_at_impl_Cam_cut_c1.l0 : Nat → Int → Int → List Int → Int → Int → List Int → Int → Int → Option (Int × List Int)
  | 0, _, _, _, _, _, _, _, _ => none
  | k + 1, x1, x6, x12, x13, x14, x900, x901, x5000 => if x14 < x13 then (if 0 ≤ x14 then (if x14 < (x12.length : Int) then ((impl_Cam_cut_c1.f (wrap64 ((wrap64 (x1 + x14)) - x6)) (wrap64 (rd x12 x14)) x900 x901 x5000).bind fun bt185 => (impl_Cutter_each_at_impl_Cam_cut_c1.l0 k x1 x6 x12 x13 (wrap64 (x14 + 1)) bt185.2 x901 bt185.1)) else (none)) else (none)) else (some (x5000, x900))
def impl_Cutter_each_at_impl_Cam_cut_c1.f (k : Nat) (l0 : List Int) (a1 : Int) (l2 : List Int) (a3 : Int) (s4_0 : Int) : Option (Int × List Int) := impl_Cutter_each_at_impl_Cam_cut_c1.l0 k a1 (wrap64 ((l0.length : Int) / 2)) l0 (l0.length : Int) 0 l2 a3 s4_0
theorem impl_Cutter_each_at_impl_Cam_cut_c1.mono_l : ∀ k, (∀ y0 y1 y2 y3 y4 y5 y6 y7, LeO (impl_Cutter_each_at_impl_Cam_cut_c1.l0 k y0 y1 y2 y3 y4 y5 y6 y7) (impl_Cutter_each_at_impl_Cam_cut_c1.l0 (k + 1) y0 y1 y2 y3 y4 y5 y6 y7))
  | 0 => fun _ _ _ _ _ _ _ _ r h => by simp [impl_Cutter_each_at_impl_Cam_cut_c1.l0] at h
  | k + 1 => by
    have ih0 := impl_Cutter_each_at_impl_Cam_cut_c1.mono_l k
    · intro y0 y1 y2 y3 y4 y5 y6 y7
      unfold impl_Cutter_each_at_impl_Cam_cut_c1.l0
      repeat' first
      | (with_reducible exact ih0 _ _ _ _ _ _ _ _)
      | (with_reducible exact LeO.refl _)
      | (with_reducible exact LeO.none _)
      | (with_reducible refine LeO.ite ?_ ?_)
      | (with_reducible refine LeO.bind ?_ (fun _ => ?_))
      | exact ih0 _ _ _ _ _ _ _ _
      | exact LeO.none _
      | refine LeO.ite ?_ ?_
      | refine LeO.bind ?_ (fun _ => ?_)
theorem impl_Cutter_each_at_impl_Cam_cut_c1.mono : ∀ a0 a1 a2 a3 a4 k, LeO (impl_Cutter_each_at_impl_Cam_cut_c1.f k a0 a1 a2 a3 a4) (impl_Cutter_each_at_impl_Cam_cut_c1.f (k + 1) a0 a1 a2 a3 a4) := by
  intro a0 a1 a2 a3 a4 k
  have ih0 := impl_Cutter_each_at_impl_Cam_cut_c1.mono_l k
  unfold impl_Cutter_each_at_impl_Cam_cut_c1.f
  repeat' first
      | (with_reducible exact ih0 _ _ _ _ _ _ _ _)
      | (with_reducible exact LeO.refl _)
      | (with_reducible exact LeO.none _)
      | (with_reducible refine LeO.ite ?_ ?_)
      | (with_reducible refine LeO.bind ?_ (fun _ => ?_))
      | exact ih0 _ _ _ _ _ _ _ _
      | exact LeO.none _
      | refine LeO.ite ?_ ?_
      | refine LeO.bind ?_ (fun _ => ?_)
set_option maxHeartbeats 8000000 in
set_option maxRecDepth 100000 in
theorem impl_Cutter_each_at_impl_Cam_cut_c1.calls (k : Nat) {q2_ q3_ : Nat} (A0 : Option Addr) (c0 : Nat) (l0 : List Int) (a1 : Int) (P2_ : Nat → Prop) (u9000_ : Value) (l2 : List Int) (a3 : Int) (g : Nat) (s4_0 : Int) (r1 : Int) (r2 : List Int) (w0 w : World) (hI : IsS2 w0 w g s4_0) (hB : Below w0.heap.size w0 w) (hr0 : ∀ W_, Kept w W_ (fun k_ => (P2_ k_) ∨ k_ = g) → Kd.C (Kd.int .i16) W_ A0 l0.length l0) (hc0 : l0.length ≤ c0) (ho2 : Kd.R (Kd.int .i16) 38 w w0.heap.size P2_ u9000_ l2) (hq2_ : ∀ W_, Kept w W_ (fun k_ => (P2_ k_) ∨ k_ = g) → W_.cell? ⟨q2_, 0, none⟩ = some (u9000_)) (hq3_ : ∀ W_, Kept w W_ (fun k_ => (P2_ k_) ∨ k_ = g) → W_.cell? ⟨q3_, 0, none⟩ = some (.int .i64 a3)) (h : impl_Cutter_each_at_impl_Cam_cut_c1.f k l0 a1 l2 a3 s4_0 = some (r1, r2)) :
    Calls Try.prog 172 #[.slice A0 l0.length c0, .int .i64 a1, Value.func (.func 173) #[] #[Value.pointer (some ⟨q2_, 0, none⟩), Value.pointer (some ⟨q3_, 0, none⟩), Value.pointer (some ⟨g, 0, none⟩)]] w fun e w' => e = .returned (.tuple #[]) ∧ IsS2 w0 w' g r1 ∧ Kd.R (Kd.int .i16) 38 w' w0.heap.size (fun k_ => (P2_ k_ ∨ w.heap.size ≤ k_)) u9000_ r2 ∧ Below w0.heap.size w0 w' ∧ Kept w w' (fun k_ => (P2_ k_) ∨ k_ = g) := by
  have HR0 := Aside0.mk hr0
  have HC0 := Aside0.mk hc0
  clear hr0 hc0
  have HO2 := Aside0.mk (show Kd.R (Kd.int .i16) 38 w w0.heap.size (fun k_ => (P2_ k_ ∨ w.heap.size ≤ k_)) u9000_ l2 from Kd.R_mono ho2 (fun k_ hk => (.inl hk)))
  have HQ2_ := Aside0.mk hq2_
  have HQ3_ := Aside0.mk hq3_
  have hq2r_ := hq2_ w (Kept.refl _ _)
  have hq3r_ := hq3_ w (Kept.refl _ _)
  clear hq2_ hq3_
  have HI4 := Aside0.mk hI
  have HL := Aside0.mk hB.size
  clear hI
  have HK := Aside0.mk (Kept.refl w (fun k_ => (P2_ k_) ∨ k_ = g))
  have HW0 := Aside0.mk hB.size
  have HB := Aside0.mk hB
  clear hB
  have H : (impl_Cutter_each_at_impl_Cam_cut_c1.l0 k a1 (wrap64 ((l0.length : Int) / 2)) l0 (l0.length : Int) 0 l2 a3 s4_0) = some (r1, r2) := h
  clear h
  have H' := Aside0.mk H
  clear H
  go_enter Try.func172, Try.ntmps172
  go_wp2
  go_loopg [14] k (fun kq v14 w' => ∃ (x14_1 : Int) (x900_1 : List Int) (x5000_1 : Int), v14 = .int .i64 x14_1 ∧ Aside0 (impl_Cutter_each_at_impl_Cam_cut_c1.l0 kq a1 (wrap64 ((l0.length : Int) / 2)) l0 (l0.length : Int) x14_1 x900_1 a3 x5000_1 = some (r1, r2)) ∧ Aside0 (kq ≤ k) ∧ Aside0 (Kd.R (Kd.int .i16) 38 w' w0.heap.size (fun k_ => (P2_ k_ ∨ w.heap.size ≤ k_)) u9000_ x900_1) ∧ Aside0 (IsS2 w0 w' g x5000_1) ∧ Aside0 (Kept w w' (fun k_ => (P2_ k_) ∨ k_ = g)) ∧ Aside0 (Below w0.heap.size w0 w'))
  case atStart => exact ⟨(0), (l2), (s4_0), (by first | rfl | (simp; done) | (simp [*]; done)), H', ⟨Nat.le_refl _⟩, ⟨by (with_reducible repeat (first | apply Kd.R_alloc | apply Kd.R_drewN | apply Kd.R_drew)); exact HO2.out⟩, ⟨by repeat (first | (with_reducible first | exact HI4.out | apply IsS2.alloc | apply IsS2.drewN | apply IsS2.drew | apply IsS2.set_0) | exact HI4.out | (simp only [Int.add_zero]))⟩, ⟨by repeat (first | (with_reducible first | exact HK.out | apply Kept.alloc | apply Kept.drewN | apply Kept.drew | refine Kept.setCell ?_ (.inl (.inr rfl)) _) | exact HK.out)⟩, ⟨by repeat (first | (with_reducible first | exact HB.out | apply below_alloc | apply pw_below_drewN | apply below_drew1 | refine below_set ?_ (IsS2.ge HI4.out)) | exact HB.out)⟩⟩
  case round =>
    clear H'
    try clear c1
    try clear p2
    try clear q2
    try clear q3
    obtain ⟨x14_1, x900_1, x5000_1, rfl, HA, HK1, HO_900, HI4, HK, HB⟩ := hrel
    cases gk with
    | zero => exact absurd HA.out (by simp [impl_Cutter_each_at_impl_Cam_cut_c1.l0])
    | succ k1 =>
      have H := HA.out
      clear HA
      simp only [impl_Cutter_each_at_impl_Cam_cut_c1.l0] at H
      by_cases c6 : x14_1 < (l0.length : Int)
      · rw [if_pos c6] at H
        have c6b0 : decide (x14_1 < (l0.length : Int)) = true := decide_eq_true c6
        clear c6
        by_cases c7 : 0 ≤ x14_1
        · rw [if_pos c7] at H
          have c7b0 : decide (0 ≤ x14_1) = true := decide_eq_true c7
          clear c7
          by_cases c8 : x14_1 < (l0.length : Int)
          · rw [if_pos c8] at H
            have c8b0 : decide (x14_1 < (l0.length : Int)) = true := decide_eq_true c8
            clear c8
            replace H := Option.bind_eq_some_iff.mp H
            obtain ⟨⟨t185, t186⟩, A90, H⟩ := H
            replace H : (impl_Cutter_each_at_impl_Cam_cut_c1.l0 k1 a1 (wrap64 ((l0.length : Int) / 2)) l0 (l0.length : Int) (wrap64 (x14_1 + 1)) t186 a3 t185) = some (r1, r2) := H
            have A9 := Aside0.mk A90
            clear A90
            have H' := Aside0.mk H
            clear H
            have p184 : 0 ≤ (x14_1 : Int) := of_decide_eq_true (by first | (with_reducible assumption) | assumption)
            have q184 : x14_1 < (l0.length : Int) := of_decide_eq_true (by first | (with_reducible assumption) | assumption)
            obtain ⟨ad184, e184, hx184_0⟩ := Kd.at_int (Kd.C_kept_now HR0.out HK.out) x14_1 p184 q184
            cases e184
            replace p184 := eq_true p184
            replace q184 := eq_true q184
            obtain ⟨Ao10, co10, eo10⟩ := Kd.R_slice HO_900.out
            subst eo10
            go_wp2_with (first | ((with_reducible refine gate_dst (N := 27) rfl ?_); refine goesV_ (some 27) rfl rfl Try.func173 (by kernel_rfl) rfl #[.int .i64 (wrap64 ((wrap64 (a1 + x14_1)) - (wrap64 ((l0.length : Int) / 2)))), .int .i64 (wrap64 (rd l0 x14_1)), .pointer (some ⟨q2_, 0, none⟩), .pointer (some ⟨q3_, 0, none⟩), .pointer (some ⟨g, 0, none⟩)] rfl rfl (by (try simp only [List.map_toArray, List.map_cons, List.map_nil]); first | done | rfl | (simp only [List.length_drop, List.length_take]; rfl)) ?_; (with_reducible refine (impl_Cam_cut_c1.calls (wrap64 ((wrap64 (a1 + x14_1)) - (wrap64 ((l0.length : Int) / 2)))) (wrap64 (rd l0 x14_1)) (fun k_ => some k_ = (.slice Ao10 x900_1.length co10 : Value).ownBlock) (.slice Ao10 x900_1.length co10) x900_1 a3 g x5000_1 t185 t186 w0 _ ?side1 ?side2 ?side3 ?side4 ?side5 A9.out).mono ?_); (case side1 => repeat (first | (with_reducible first | exact HI4.out | apply IsS2.alloc | apply IsS2.drewN | apply IsS2.drew | apply IsS2.set_0) | exact HI4.out)); (case side2 => repeat (first | (with_reducible first | exact HB.out | apply below_alloc | apply pw_below_drewN | apply below_drew1 | refine below_set ?_ (IsS2.ge HI4.out)) | exact HB.out)); (case side3 => exact Kd.R_tight rfl HO_900.out); (case side4 => (first | (intro W_ hW_; exact HQ2_.out W_ (Kept.then_ (by repeat (first | exact HK.out | apply Kept.drewN | apply Kept.drew | apply Kept.alloc)) hW_ (by rintro k_ ((h_ | h_) | h_) <;> first | exact .inl (.inl h_) | exact .inr h_ | exact .inl (.inr h_) | exact Or.imp_left Or.inl (HO_900.out.1 k_ h_.symm)))) | (intro W_ hW_; exact HQ2_.out W_ (Kept.then_ (by repeat (first | exact HK.out | apply Kept.drewN | apply Kept.drew | apply Kept.alloc)) hW_ (by rintro k_ (h_ | h_) <;> first | exact .inl (.inl h_) | exact .inr h_ | exact .inl (.inr h_) | exact Or.imp_left Or.inl (HO_900.out.1 k_ h_.symm)))))); (case side5 => (first | (intro W_ hW_; exact HQ3_.out W_ (Kept.then_ (by repeat (first | exact HK.out | apply Kept.drewN | apply Kept.drew | apply Kept.alloc)) hW_ (by rintro k_ ((h_ | h_) | h_) <;> first | exact .inl (.inl h_) | exact .inr h_ | exact .inl (.inr h_) | exact Or.imp_left Or.inl (HO_900.out.1 k_ h_.symm)))) | (intro W_ hW_; exact HQ3_.out W_ (Kept.then_ (by repeat (first | exact HK.out | apply Kept.drewN | apply Kept.drew | apply Kept.alloc)) hW_ (by rintro k_ (h_ | h_) <;> first | exact .inl (.inl h_) | exact .inr h_ | exact .inl (.inr h_) | exact Or.imp_left Or.inl (HO_900.out.1 k_ h_.symm)))))); rintro e w11 ⟨rfl, hi, hy0, hb, hkp⟩; refine ⟨_, rfl, ?_⟩; have n0_ := Aside0.mk (Kd.R_reok rfl hy0 (fun k_ e_ => HO_900.out.1 k_ e_)); have n1_ := Aside0.mk (hi); have n2_ := Aside0.mk (Kept.then_ (S := (fun k_ => (P2_ k_) ∨ k_ = g)) (by repeat (first | (with_reducible first | exact HK.out | apply Kept.alloc | apply Kept.drewN | apply Kept.drew | refine Kept.setCell ?_ (.inl (.inr rfl)) _) | exact HK.out)) hkp (fun k_ hs_ => Or.elim hs_ (fun hs_ => (fun e_ => Or.imp_left Or.inl ((HO_900.out.1 k_ e_.symm))) hs_) (fun e_ => .inl (.inr e_)))); have n3_ := Aside0.mk (hb); clear HO_900; clear HI4; clear HK; clear HB; have HO_900 := n0_; have HI4 := n1_; have HK := n2_; have HB := n3_; clear n0_ n1_ n2_ n3_; (try clear hb); (try clear hkp); (try clear hy0)))
            go_roundg k1
            case measure => have := HK1.out; omega
            case rel => exact ⟨(wrap64 (x14_1 + 1)), (t186), (t185), (by first | rfl | (simp; done) | (simp [*]; done)), H', ⟨by have := HK1.out; omega⟩, ⟨by (with_reducible repeat (first | apply Kd.R_alloc | apply Kd.R_drewN | apply Kd.R_drew)); exact HO_900.out⟩, ⟨by repeat (first | (with_reducible first | exact HI4.out | apply IsS2.alloc | apply IsS2.drewN | apply IsS2.drew | apply IsS2.set_0) | exact HI4.out | (simp only [Int.add_zero]))⟩, ⟨by repeat (first | (with_reducible first | exact HK.out | apply Kept.alloc | apply Kept.drewN | apply Kept.drew | refine Kept.setCell ?_ (.inl (.inr rfl)) _) | exact HK.out)⟩, ⟨by repeat (first | (with_reducible first | exact HB.out | apply below_alloc | apply pw_below_drewN | apply below_drew1 | refine below_set ?_ (IsS2.ge HI4.out)) | exact HB.out)⟩⟩
          · rw [if_neg c8] at H
            exact absurd H (by simp)
        · rw [if_neg c7] at H
          exact absurd H (by simp)
      · rw [if_neg c6] at H
        have c6b0 : decide (x14_1 < (l0.length : Int)) = false := decide_eq_false c6
        clear c6
        simp only [Option.some.injEq, Prod.mk.injEq] at H
        obtain ⟨rfl, rfl⟩ := H
        go_wp2
        first | go_end0 | ((try simp only [Exit.inBlock, Exit.then]); refine bodyPost_ret (results_none rfl _ _ _) rfl ?_)
        exact ⟨by first | rfl | (simp [errW_none, errW_some] <;> rfl) | (simp [*, errW_none, errW_some] <;> rfl), by repeat (first | (with_reducible first | exact HI4.out | apply IsS2.alloc | apply IsS2.drewN | apply IsS2.drew | apply IsS2.set_0) | exact HI4.out | (simp only [Int.add_zero])), by (with_reducible repeat (first | apply Kd.R_alloc | apply Kd.R_drewN | apply Kd.R_drew)); exact HO_900.out, by repeat (first | (with_reducible first | exact HB.out | apply below_alloc | apply pw_below_drewN | apply below_drew1 | refine below_set ?_ (IsS2.ge HI4.out)) | exact HB.out), by repeat (first | (with_reducible first | exact HK.out | apply Kept.alloc | apply Kept.drewN | apply Kept.drew | refine Kept.setCell ?_ (.inl (.inr rfl)) _) | exact HK.out)⟩

def impl_Cam_cut.f (k : Nat) (l0 : List Int) (l1 : List Int) (a2 : Int) (a3 : Int) : Option (Int × List Int) := impl_Cutter_each_at_impl_Cam_cut_c1.f k l1 a2 l0 a3 0
theorem impl_Cam_cut.mono : ∀ a0 a1 a2 a3 k, LeO (impl_Cam_cut.f k a0 a1 a2 a3) (impl_Cam_cut.f (k + 1) a0 a1 a2 a3) := by
  intro a0 a1 a2 a3 k
  unfold impl_Cam_cut.f
  exact impl_Cutter_each_at_impl_Cam_cut_c1.mono _ _ _ _ _ _
set_option maxHeartbeats 8000000 in
set_option maxRecDepth 100000 in
theorem impl_Cam_cut.calls (k : Nat) (P0_ : Nat → Prop) (u9000_ : Value) (l0 : List Int) (A1 : Option Addr) (c1 : Nat) (l1 : List Int) (a2 : Int) (a3 : Int) (r1 : Int) (r2 : List Int) (w0 w : World) (hB : Below w0.heap.size w0 w) (ho0 : Kd.R (Kd.int .i16) 38 w w0.heap.size P0_ u9000_ l0) (hr1 : ∀ W_, Kept w W_ (fun k_ => P0_ k_) → Kd.C (Kd.int .i16) W_ A1 l1.length l1) (hc1 : l1.length ≤ c1) (h : impl_Cam_cut.f k l0 l1 a2 a3 = some (r1, r2)) :
    Calls Try.prog 135 #[u9000_, .slice A1 l1.length c1, .int .i64 a2, .int .i64 a3] w fun e w' => e = .returned (.int .i64 r1) ∧ Kd.R (Kd.int .i16) 38 w' w0.heap.size (fun k_ => (P0_ k_ ∨ w.heap.size ≤ k_)) u9000_ r2 ∧ Below w0.heap.size w0 w' ∧ Kept w w' (fun k_ => P0_ k_) := by
  obtain ⟨A0, c0, e0⟩ := Kd.R_slice ho0
  subst e0
  unfold impl_Cam_cut.f at h
  have HC1 := Aside0.mk hc1
  have HR1 := Aside0.mk hr1
  have HL := Aside0.mk hB.size
  have HB := Aside0.mk (Below.refl w.heap.size w)
  have HO := Aside0.mk ho0
  have HBB := Aside0.mk hB
  clear hr1 hc1 ho0 hB
  go_enter Try.func135, Try.ntmps135
  go_wp2_with (first | ((with_reducible refine gate_dst (N := 4) rfl ?_); refine box_event ?hg (N := 4) ?hd (cs := #[.slice A0 l0.length c0]) (t := 27) ?hr ?_; (case hd => rfl); (case hg => rfl); (case hr => first | (go_simp; done) | (go_simp; rfl)); intro gb4 hg w4 hbox hb; have n0_ := Aside0.mk (Kd.R_below (Kd.R_elderB (by (with_reducible repeat (first | apply Kd.R_alloc | apply Kd.R_drewN | apply Kd.R_drew)); exact HO.out) gb4 (Nat.le_of_eq hg.symm)) hb); have n1_ := Aside0.mk (below_step (by repeat (first | (with_reducible first | exact HB.out | apply below_alloc | apply pw_below_drewN | apply below_drew1) | exact HB.out)) hb); have n2_ := Aside0.mk hbox; have n3_ := Aside0.mk ((by rw [hg]; exact (below_size (by repeat (first | (with_reducible first | exact HB.out | apply below_alloc | apply pw_below_drewN | apply below_drew1) | exact HB.out))) : w.heap.size ≤ gb4)); clear HO HB; have HO := n0_; have HB := n1_; have BK4 := n2_; have GE4 := n3_; clear n0_ n1_ n2_ n3_; clear hb hbox hg; have hcz4 : w4.cell? ⟨gb4, 0, none⟩ = some (.slice A0 l0.length c0) := (blk_cell BK4.out 0).trans rfl; have hfz4 := blk_frozen BK4.out 0) | ((with_reducible refine gate_dst (N := 7) rfl ?_); refine box_event ?hg (N := 7) ?hd (cs := #[.int .i64 a3]) (t := 2) ?hr ?_; (case hd => rfl); (case hg => rfl); (case hr => first | (go_simp; done) | (go_simp; rfl)); intro gb7 hg w7 hbox hb; have n0_ := Aside0.mk (Kd.R_below (Kd.R_elderB (by (with_reducible repeat (first | apply Kd.R_alloc | apply Kd.R_drewN | apply Kd.R_drew)); exact HO.out) gb7 (Nat.le_of_eq hg.symm)) hb); have n1_ := Aside0.mk (below_step (by repeat (first | (with_reducible first | exact HB.out | apply below_alloc | apply pw_below_drewN | apply below_drew1) | exact HB.out)) hb); have n2_ := Aside0.mk hbox; have n3_ := Aside0.mk ((by rw [hg]; exact (below_size (by repeat (first | (with_reducible first | exact HB.out | apply below_alloc | apply pw_below_drewN | apply below_drew1) | exact HB.out))) : w.heap.size ≤ gb7)); have n4_ := Aside0.mk (blk_below (g := gb4) (o := .cells #[.slice A0 l0.length c0] 27 (0, 0)) (by (with_reducible repeat (first | refine blk_drewN ?_ _ | refine blk_drew ?_ | refine blk_alloc ?_ _)); exact BK4.out) hb); have n5_ : Aside0 (gb4 ≠ gb7) := ⟨by rw [hg]; exact Nat.ne_of_lt (blk_lt (by (with_reducible repeat (first | refine blk_drewN ?_ _ | refine blk_drew ?_ | refine blk_alloc ?_ _)); exact BK4.out))⟩; clear HO HB BK4; have HO := n0_; have HB := n1_; have BK7 := n2_; have GE7 := n3_; have BK4 := n4_; have NE4_7 := n5_; clear n0_ n1_ n2_ n3_ n4_ n5_; clear hb hbox hg; have hcz7 : w7.cell? ⟨gb7, 0, none⟩ = some (.int .i64 a3) := (blk_cell BK7.out 0).trans rfl; have hfz7 := blk_frozen BK7.out 0) | ((with_reducible refine gate_dst (N := 9) rfl ?_); refine box_event ?hg (N := 9) ?hd (cs := #[.int .i64 0]) (t := 2) ?hr ?_; (case hd => rfl); (case hg => rfl); (case hr => first | (go_simp; done) | (go_simp; rfl)); intro gb9 hg w9 hbox hb; have n0_ := Aside0.mk (Kd.R_below (Kd.R_elderB (by (with_reducible repeat (first | apply Kd.R_alloc | apply Kd.R_drewN | apply Kd.R_drew)); exact HO.out) gb9 (Nat.le_of_eq hg.symm)) hb); have n1_ := Aside0.mk (below_step (by repeat (first | (with_reducible first | exact HB.out | apply below_alloc | apply pw_below_drewN | apply below_drew1) | exact HB.out)) hb); have n2_ := Aside0.mk hbox; have n3_ := Aside0.mk ((by rw [hg]; exact (below_size (by repeat (first | (with_reducible first | exact HB.out | apply below_alloc | apply pw_below_drewN | apply below_drew1) | exact HB.out))) : w.heap.size ≤ gb9)); have n4_ := Aside0.mk (blk_below (g := gb4) (o := .cells #[.slice A0 l0.length c0] 27 (0, 0)) (by (with_reducible repeat (first | refine blk_drewN ?_ _ | refine blk_drew ?_ | refine blk_alloc ?_ _)); exact BK4.out) hb); have n5_ : Aside0 (gb4 ≠ gb9) := ⟨by rw [hg]; exact Nat.ne_of_lt (blk_lt (by (with_reducible repeat (first | refine blk_drewN ?_ _ | refine blk_drew ?_ | refine blk_alloc ?_ _)); exact BK4.out))⟩; have n6_ := Aside0.mk (blk_below (g := gb7) (o := .cells #[.int .i64 a3] 2 (0, 0)) (by (with_reducible repeat (first | refine blk_drewN ?_ _ | refine blk_drew ?_ | refine blk_alloc ?_ _)); exact BK7.out) hb); have n7_ : Aside0 (gb7 ≠ gb9) := ⟨by rw [hg]; exact Nat.ne_of_lt (blk_lt (by (with_reducible repeat (first | refine blk_drewN ?_ _ | refine blk_drew ?_ | refine blk_alloc ?_ _)); exact BK7.out))⟩; clear HO HB BK4 BK7; have HO := n0_; have HB := n1_; have BK9 := n2_; have GE9 := n3_; have BK4 := n4_; have NE4_9 := n5_; have BK7 := n6_; have NE7_9 := n7_; clear n0_ n1_ n2_ n3_ n4_ n5_ n6_ n7_; clear hb hbox hg; have hcz9 : w9.cell? ⟨gb9, 0, none⟩ = some (.int .i64 0) := (blk_cell BK9.out 0).trans rfl; have hfz9 := blk_frozen BK9.out 0) | ((with_reducible refine gate_callee (f := 172) rfl ?_); refine goesL_ (some 13) rfl rfl Try.func172 (by kernel_rfl) rfl #[.slice A1 l1.length c1, .int .i64 a2, Value.func (.func 173) #[] #[Value.pointer (some ⟨gb4, 0, none⟩), Value.pointer (some ⟨gb7, 0, none⟩), Value.pointer (some ⟨gb9, 0, none⟩)]] rfl (by (try simp only [List.map_toArray, List.map_cons, List.map_nil]); first | done | rfl) ?_; refine (impl_Cutter_each_at_impl_Cam_cut_c1.calls k (q2_ := gb4) (q3_ := gb7) A1 c1 l1 a2 (fun k_ => ((P0_ k_ ∧ k_ ≠ gb4) ∧ k_ ≠ gb7) ∧ k_ ≠ gb9) (.slice A0 l0.length c0) l0 a3 gb9 0 r1 r2 w0 _ ⟨?b, ?ge⟩ ?hB ?r1 HC1.out ?o2 ?q4 ?q7 h).mono ?_; (case b => (with_reducible repeat (first | refine blk_drewN ?_ _ | refine blk_drew ?_ | refine blk_alloc ?_ _)); refine blk_put (cs := #[.int .i64 0]) ?_ 0 _ rfl; (with_reducible repeat (first | refine blk_drewN ?_ _ | refine blk_drew ?_ | refine blk_alloc ?_ _)); exact BK9.out); (case ge => exact Nat.le_trans HL.out GE9.out); (case hB => exact below_then HBB.out HL.out (by repeat (first | (with_reducible first | exact HB.out | apply below_alloc | apply pw_below_drewN | apply below_drew1 | refine below_set ?_ GE9.out) | exact HB.out))); (case r1 => (intro W_ hW_; exact HR1.out W_ (Kept.then_ (Kept.of_below (by repeat (first | (with_reducible first | exact HB.out | apply below_alloc | apply pw_below_drewN | apply below_drew1 | refine below_set ?_ GE9.out) | exact HB.out)) _) hW_ (by rintro k_ (h_ | h_); exact .inl h_.1.1.1; exact .inr (h_ ▸ GE9.out))))); (case o2 => exact (by (with_reducible repeat (first | apply Kd.R_alloc | apply Kd.R_drewN | apply Kd.R_drew)); exact Kd.R_mono (Kd.R_far (p := ⟨gb9, 0, none⟩) HO.out (fun _ hk => hk.2) (.int .i64 0)) (fun _ hk => ⟨⟨⟨hk.1.1.1, hk.1.1.2⟩, hk.1.2⟩, hk.2⟩))); (case q4 => (intro W_ hW_; exact cell_kept (by repeat (first | exact (blk_cell BK4.out 0).trans rfl | (with_reducible refine xq_drewN ?_ _) | (with_reducible refine xq_drew ?_) | exact (cell_far NE4_9.out _).trans ((blk_cell BK4.out 0).trans rfl))) hW_ (by rintro (h_ | h_); exact h_.1.1.2 rfl; exact NE4_9.out h_))); (case q7 => (intro W_ hW_; exact cell_kept (by repeat (first | exact (blk_cell BK7.out 0).trans rfl | (with_reducible refine xq_drewN ?_ _) | (with_reducible refine xq_drew ?_) | exact (cell_far NE7_9.out _).trans ((blk_cell BK7.out 0).trans rfl))) hW_ (by rintro (h_ | h_); exact h_.1.2 rfl; exact NE7_9.out h_))); rintro e w' ⟨rfl, hi, ho, hb2, hk⟩; refine ⟨_, rfl, ?_⟩; have BK9b := Aside0.mk hi.1; have HO2 := Aside0.mk (Kd.R_mono ho (fun k_ hk_ => (hk_.elim (fun z_ => .inl z_.1.1.1) (fun z_ => .inr (Nat.le_trans (below_size (by repeat (first | (with_reducible first | exact HB.out | apply below_alloc | apply pw_below_drewN | apply below_drew1 | refine below_set ?_ GE9.out) | exact HB.out))) z_)) : P0_ k_ ∨ w.heap.size ≤ k_))); have HB2 := Aside0.mk hb2; have HK2 := Aside0.mk (Kept.then_ (Kept.of_below (by repeat (first | (with_reducible first | exact HB.out | apply below_alloc | apply pw_below_drewN | apply below_drew1 | refine below_set ?_ GE9.out) | exact HB.out)) (fun k_ => P0_ k_)) hk (by rintro k_ (h_ | h_); exact .inl h_.1.1.1; exact .inr (h_ ▸ GE9.out))); clear hb2 hk hi ho; have hcz_1 : w'.cell? ⟨gb9, 0, none⟩ = some (.int .i64 r1) := (blk_cell BK9b.out 0).trans rfl))
  go_ret
  exact ⟨rfl, (by (with_reducible repeat (first | apply Kd.R_alloc | apply Kd.R_drewN | apply Kd.R_drew)); exact HO2.out), (by repeat (first | exact HB2.out | apply pw_below_drewN | apply below_drew1)), (by repeat (first | exact HK2.out | apply Kept.drewN | apply Kept.drew))⟩

/-! ### impl_CutAt: function 68 -/
def impl_CutAt.j0 : Nat → List Int → List Int → Int → Int → Int → Option (List Int × Int × Int)
  | 0, _, _, _, _, _ => none
  | k + 1, x0, x1, x2, x3, x11 => if x11 = 0 then ((impl_Cam_int16_81.f x0).bind fun t200 => ((impl_Cam_cut.f k t200 x1 x2 x3).bind fun bt203 => (some (bt203.2, bt203.1, 0)))) else (some (([] : List Int), 0, x11))
def impl_CutAt.f (k : Nat) (l0 : List Int) (l1 : List Int) (a2 : Int) (a3 : Int) : Option (List Int × Int × Int) := (impl_cutterCode.f k l0 l1).bind fun t187 => ((impl_isPlace.f a2 (l0.length : Int)).bind fun t188 => (if t188 = true then ((impl_isLift.f a3).bind fun t189 => ((impl_codeIf.f (!t189) 2).bind fun t190 => ((impl_firstCode.f k (([t187, t190] : List Int))).bind fun t194 => (impl_CutAt.j0 k l0 l1 a2 a3 t194)))) else ((impl_codeIf.f true 2).bind fun t195 => ((impl_firstCode.f k (([t187, t195] : List Int))).bind fun t199 => (impl_CutAt.j0 k l0 l1 a2 a3 t199)))))
theorem impl_CutAt.mono_l : ∀ k, (∀ y0 y1 y2 y3 y4, LeO (impl_CutAt.j0 k y0 y1 y2 y3 y4) (impl_CutAt.j0 (k + 1) y0 y1 y2 y3 y4))
  | 0 => fun _ _ _ _ _ r h => by simp [impl_CutAt.j0] at h
  | k + 1 => by
    have ih0 := impl_CutAt.mono_l k
    · intro y0 y1 y2 y3 y4
      unfold impl_CutAt.j0
      repeat' first
      | (with_reducible exact ih0 _ _ _ _ _)
      | (with_reducible exact impl_Cam_cut.mono _ _ _ _ _)
      | (with_reducible exact impl_cutterCode.mono _ _ _)
      | (with_reducible exact impl_firstCode.mono _ _)
      | (with_reducible exact LeO.refl _)
      | (with_reducible exact LeO.none _)
      | (with_reducible refine LeO.ite ?_ ?_)
      | (with_reducible refine LeO.bind ?_ (fun _ => ?_))
      | exact ih0 _ _ _ _ _
      | exact impl_Cam_cut.mono _ _ _ _ _
      | exact impl_cutterCode.mono _ _ _
      | exact impl_firstCode.mono _ _
      | exact LeO.none _
      | refine LeO.ite ?_ ?_
      | refine LeO.bind ?_ (fun _ => ?_)
theorem impl_CutAt.mono : ∀ a0 a1 a2 a3 k, LeO (impl_CutAt.f k a0 a1 a2 a3) (impl_CutAt.f (k + 1) a0 a1 a2 a3) := by
  intro a0 a1 a2 a3 k
  have ih0 := impl_CutAt.mono_l k
  unfold impl_CutAt.f
  repeat' first
      | (with_reducible exact ih0 _ _ _ _ _)
      | (with_reducible exact impl_Cam_cut.mono _ _ _ _ _)
      | (with_reducible exact impl_cutterCode.mono _ _ _)
      | (with_reducible exact impl_firstCode.mono _ _)
      | (with_reducible exact LeO.refl _)
      | (with_reducible exact LeO.none _)
      | (with_reducible refine LeO.ite ?_ ?_)
      | (with_reducible refine LeO.bind ?_ (fun _ => ?_))
      | exact ih0 _ _ _ _ _
      | exact impl_Cam_cut.mono _ _ _ _ _
      | exact impl_cutterCode.mono _ _ _
      | exact impl_firstCode.mono _ _
      | exact LeO.none _
      | refine LeO.ite ?_ ?_
      | refine LeO.bind ?_ (fun _ => ?_)
set_option maxHeartbeats 8000000 in
set_option maxRecDepth 100000 in
theorem impl_CutAt.calls (k : Nat) (A0 : Option Addr) (c0 : Nat) (l0 : List Int) (A1 : Option Addr) (c1 : Nat) (l1 : List Int) (a2 : Int) (a3 : Int) (r1 : List Int) (r2 : Int) (r3 : Int) (w : World) (hr0 : Kd.C (Kd.int .i16) w A0 l0.length l0) (hc0 : l0.length ≤ c0) (hr1 : Kd.C (Kd.int .i16) w A1 l1.length l1) (hc1 : l1.length ≤ c1) (h : impl_CutAt.f k l0 l1 a2 a3 = some (r1, r2, r3)) :
    Calls Try.prog 68 #[.slice A0 l0.length c0, .slice A1 l1.length c1, .int .i64 a2, .int .i64 a3] w fun e w' => ∃ v0_ : Value, e = .returned (.tuple #[v0_, .int .i64 r2, .int .i64 r3]) ∧ Kd.R (Kd.int .i16) 38 w' w.heap.size (fun _ => True) v0_ r1 ∧ Below w.heap.size w w' := by
  have HR0 := Aside0.mk hr0
  have HC0 := Aside0.mk hc0
  clear hr0 hc0
  have HR1 := Aside0.mk hr1
  have HC1 := Aside0.mk hc1
  clear hr1 hc1
  have HB := Aside0.mk (Below.refl w.heap.size w)
  have H : ((impl_cutterCode.f k l0 l1).bind fun t187 => ((impl_isPlace.f a2 (l0.length : Int)).bind fun t188 => (if t188 = true then ((impl_isLift.f a3).bind fun t189 => ((impl_codeIf.f (!t189) 2).bind fun t190 => ((impl_firstCode.f k (([t187, t190] : List Int))).bind fun t194 => (impl_CutAt.j0 k l0 l1 a2 a3 t194)))) else ((impl_codeIf.f true 2).bind fun t195 => ((impl_firstCode.f k (([t187, t195] : List Int))).bind fun t199 => (impl_CutAt.j0 k l0 l1 a2 a3 t199)))))) = some (r1, r2, r3) := h
  clear h
  have HC5 := Aside0.mk H
  clear H
  go_enter Try.func68, Try.ntmps68
  go_upto_region 1 with (fail)
  go_cut [11] (fun v11 wc => ∃ (kq : Nat) (x11_4 : Int), v11 = .int .i64 x11_4 ∧ Aside0 (impl_CutAt.j0 kq l0 l1 a2 a3 x11_4 = some (r1, r2, r3)) ∧ Aside0 (kq ≤ k) ∧ Aside0 (Below w.heap.size w wc))
  case first =>
    have H := HC5.out
    clear HC5
    replace H := Option.bind_eq_some_iff.mp H
    obtain ⟨t187, A60, H⟩ := H
    replace H : ((impl_isPlace.f a2 (l0.length : Int)).bind fun t188 => (if t188 = true then ((impl_isLift.f a3).bind fun t189 => ((impl_codeIf.f (!t189) 2).bind fun t190 => ((impl_firstCode.f k (([t187, t190] : List Int))).bind fun t194 => (impl_CutAt.j0 k l0 l1 a2 a3 t194)))) else ((impl_codeIf.f true 2).bind fun t195 => ((impl_firstCode.f k (([t187, t195] : List Int))).bind fun t199 => (impl_CutAt.j0 k l0 l1 a2 a3 t199))))) = some (r1, r2, r3) := H
    have A6 := Aside0.mk A60
    clear A60
    replace H := Option.bind_eq_some_iff.mp H
    obtain ⟨t188, A70, H⟩ := H
    replace H : (if t188 = true then ((impl_isLift.f a3).bind fun t189 => ((impl_codeIf.f (!t189) 2).bind fun t190 => ((impl_firstCode.f k (([t187, t190] : List Int))).bind fun t194 => (impl_CutAt.j0 k l0 l1 a2 a3 t194)))) else ((impl_codeIf.f true 2).bind fun t195 => ((impl_firstCode.f k (([t187, t195] : List Int))).bind fun t199 => (impl_CutAt.j0 k l0 l1 a2 a3 t199)))) = some (r1, r2, r3) := H
    have A7 := Aside0.mk A70
    clear A70
    by_cases c8 : t188 = true
    · subst c8
      have H1 : ((impl_isLift.f a3).bind fun t189 => ((impl_codeIf.f (!t189) 2).bind fun t190 => ((impl_firstCode.f k (([t187, t190] : List Int))).bind fun t194 => (impl_CutAt.j0 k l0 l1 a2 a3 t194)))) = some (r1, r2, r3) := by rw [if_pos rfl] at H; exact H
      clear H
      have H := H1
      clear H1
      replace H := Option.bind_eq_some_iff.mp H
      obtain ⟨t189, A90, H⟩ := H
      replace H : ((impl_codeIf.f (!t189) 2).bind fun t190 => ((impl_firstCode.f k (([t187, t190] : List Int))).bind fun t194 => (impl_CutAt.j0 k l0 l1 a2 a3 t194))) = some (r1, r2, r3) := H
      have A9 := Aside0.mk A90
      clear A90
      replace H := Option.bind_eq_some_iff.mp H
      obtain ⟨t190, A100, H⟩ := H
      replace H : ((impl_firstCode.f k (([t187, t190] : List Int))).bind fun t194 => (impl_CutAt.j0 k l0 l1 a2 a3 t194)) = some (r1, r2, r3) := H
      have A10 := Aside0.mk A100
      clear A100
      obtain ⟨y191, hy191⟩ : ∃ y_ : List Int, y_ = (([t187, t190] : List Int)) := ⟨_, rfl⟩
      replace H : ((impl_firstCode.f k y191).bind fun t194 => (impl_CutAt.j0 k l0 l1 a2 a3 t194)) = some (r1, r2, r3) := by first | (rw [hy191]; with_reducible exact H) | (have H2_ := (Option.bind_some _ _).symm.trans H; rw [hy191]; with_reducible exact H2_) | (have H2_ := (Option.bind_some _ _).symm.trans H; with_reducible exact H2_) | with_reducible exact H | (rw [hy191]; exact H) | exact H
      have Ny191 := Aside0.mk hy191
      clear hy191
      replace H := Option.bind_eq_some_iff.mp H
      obtain ⟨t194, A110, H⟩ := H
      replace H : (impl_CutAt.j0 k l0 l1 a2 a3 t194) = some (r1, r2, r3) := H
      have A11 := Aside0.mk A110
      clear A110
      have H' := Aside0.mk H
      clear H
      go_wp2_with (first | ((with_reducible refine gate_callee (f := 132) rfl ?_); refine goesL_ (some 16) rfl rfl Try.func132 (by kernel_rfl) rfl #[.slice A0 l0.length c0, .slice A1 l1.length c1] rfl (by (try simp only [List.map_toArray, List.map_cons, List.map_nil]); first | done | rfl | (simp only [List.length_drop, List.length_take]; rfl)) ?_; (with_reducible refine (impl_cutterCode.calls k _ _ l0 _ _ l1 t187 _ ?side1 ?side2 ?side3 ?side4 A6.out).mono ?_); (case side1 => repeat (first | exact (Kd.C_below HR0.out HB.out) | (with_reducible refine Kd.C_alloc ?_ _) | (with_reducible refine Kd.C_drewN ?_ _) | (with_reducible refine Kd.C_drew ?_))); (case side2 => exact HC0.out); (case side3 => repeat (first | exact (Kd.C_below HR1.out HB.out) | (with_reducible refine Kd.C_alloc ?_ _) | (with_reducible refine Kd.C_drewN ?_ _) | (with_reducible refine Kd.C_drew ?_))); (case side4 => exact HC1.out); rintro e w' ⟨rfl, ⟨nd, rfl⟩⟩; refine ⟨_, rfl, ?_⟩) | ((with_reducible refine gate_callee (f := 133) rfl ?_); refine goesL_ (some 20) rfl rfl Try.func133 (by kernel_rfl) rfl #[.int .i64 a2, .int .i64 (l0.length : Int)] rfl (by (try simp only [List.map_toArray, List.map_cons, List.map_nil]); first | done | rfl | (simp only [List.length_drop, List.length_take]; rfl)) ?_; (with_reducible refine (impl_isPlace.calls a2 (l0.length : Int) true _ A7.out).mono ?_); rintro e w' ⟨rfl, ⟨nd, rfl⟩⟩; refine ⟨_, rfl, ?_⟩) | (go_at_call 134; (with_reducible refine (impl_isLift.calls a3 t189 _ A9.out).mono ?_); rintro e w' ⟨rfl, ⟨nd, rfl⟩⟩) | ((with_reducible refine gate_callee (f := 107) rfl ?_); refine goesL_ (some 27) rfl rfl Try.func107 (by kernel_rfl) rfl #[.bool (!t189), .int .i64 2] rfl (by (try simp only [List.map_toArray, List.map_cons, List.map_nil]); first | done | rfl | (simp only [List.length_drop, List.length_take]; rfl)) ?_; (with_reducible refine (impl_codeIf.calls (!t189) 2 t190 _ A10.out).mono ?_); rintro e w' ⟨rfl, ⟨nd, rfl⟩⟩; refine ⟨_, rfl, ?_⟩) | ((with_reducible refine gate_dst (N := 28) rfl ?_); refine Kd.R_lit (Kd.int .i64) _ 2 ?hg (N := 28) ?hd (xs := ([t187, t190] : List Int)) (inner := [.int .i64 t187, .int .i64 t190]) (ok := fun _ => True) (okp := fun _ => True) ?hr ?hp (fun _ hk => hk) trivial (Below.refl _ _) (Nat.le_refl _) (by simp) ?_; (case hd => rfl); (case hg => rfl); (case hr => first | (go_simp; done) | (go_simp; rfl)); (case hp => exact (Reps.one (show Kd.M (Kd.int .i64) _ _ _ t187 [.int .i64 t187] from rfl) (Reps.one (show Kd.M (Kd.int .i64) _ _ _ t190 [.int .i64 t190] from rfl) (Reps.none _ _)))); intro v192 w12 ho13 hb hg_ hnew_; clear hg_ hnew_; (first | rw [← Ny191.out] at ho13 | (simp only [Int.reduceToNat] at ho13; rw [← Ny191.out] at ho13)); have n0_ := Aside0.mk (Kd.R_lower ho13 (below_size (by repeat (first | (with_reducible first | exact HB.out | apply below_alloc | apply pw_below_drewN | apply below_drew1) | exact HB.out)))); have n1_ := Aside0.mk (below_step (by repeat (first | (with_reducible first | exact HB.out | apply below_alloc | apply pw_below_drewN | apply below_drew1) | exact HB.out)) hb); clear HB; have HO193 := n0_; have HB := n1_; clear n0_ n1_; clear hb ho13; obtain ⟨Ao14, co14, eo14⟩ := Kd.R_slice HO193.out; subst eo14) | ((with_reducible refine gate_callee (f := 106) rfl ?_); refine goesL_ (some 29) rfl rfl Try.func106 (by kernel_rfl) rfl #[.slice Ao14 y191.length co14] rfl (by (try simp only [List.map_toArray, List.map_cons, List.map_nil]); first | done | rfl | (simp only [List.length_drop, List.length_take]; rfl)) ?_; (with_reducible refine (impl_firstCode.calls k _ _ y191 t194 _ ?side1 ?side2 A11.out).mono ?_); (case side1 => repeat (first | exact (Kd.R_reads' HO193.out).2.2 | (with_reducible refine Kd.C_alloc ?_ _) | (with_reducible refine Kd.C_drewN ?_ _) | (with_reducible refine Kd.C_drew ?_))); (case side2 => exact (Kd.R_reads' HO193.out).2.1); rintro e w' ⟨rfl, ⟨nd, rfl⟩⟩; refine ⟨_, rfl, ?_⟩))
      go_meet
      case rel => exact ⟨_, (t194), (by first | rfl | (simp; done) | (simp [*]; done)), H', ⟨by first | omega | exact Nat.le_refl _⟩, ⟨by repeat (first | (with_reducible first | exact HB.out | apply below_alloc | apply pw_below_drewN | apply below_drew1) | exact HB.out)⟩⟩
    · replace c8 := Bool.eq_false_iff.mpr c8
      subst c8
      have H1 : ((impl_codeIf.f true 2).bind fun t195 => ((impl_firstCode.f k (([t187, t195] : List Int))).bind fun t199 => (impl_CutAt.j0 k l0 l1 a2 a3 t199))) = some (r1, r2, r3) := by rw [if_neg (show ¬ (false = true) by decide)] at H; exact H
      clear H
      have H := H1
      clear H1
      replace H := Option.bind_eq_some_iff.mp H
      obtain ⟨t195, A150, H⟩ := H
      replace H : ((impl_firstCode.f k (([t187, t195] : List Int))).bind fun t199 => (impl_CutAt.j0 k l0 l1 a2 a3 t199)) = some (r1, r2, r3) := H
      have A15 := Aside0.mk A150
      clear A150
      obtain ⟨y196, hy196⟩ : ∃ y_ : List Int, y_ = (([t187, t195] : List Int)) := ⟨_, rfl⟩
      replace H : ((impl_firstCode.f k y196).bind fun t199 => (impl_CutAt.j0 k l0 l1 a2 a3 t199)) = some (r1, r2, r3) := by first | (rw [hy196]; with_reducible exact H) | (have H2_ := (Option.bind_some _ _).symm.trans H; rw [hy196]; with_reducible exact H2_) | (have H2_ := (Option.bind_some _ _).symm.trans H; with_reducible exact H2_) | with_reducible exact H | (rw [hy196]; exact H) | exact H
      have Ny196 := Aside0.mk hy196
      clear hy196
      replace H := Option.bind_eq_some_iff.mp H
      obtain ⟨t199, A160, H⟩ := H
      replace H : (impl_CutAt.j0 k l0 l1 a2 a3 t199) = some (r1, r2, r3) := H
      have A16 := Aside0.mk A160
      clear A160
      have H' := Aside0.mk H
      clear H
      go_wp2_with (first | ((with_reducible refine gate_callee (f := 132) rfl ?_); refine goesL_ (some 16) rfl rfl Try.func132 (by kernel_rfl) rfl #[.slice A0 l0.length c0, .slice A1 l1.length c1] rfl (by (try simp only [List.map_toArray, List.map_cons, List.map_nil]); first | done | rfl | (simp only [List.length_drop, List.length_take]; rfl)) ?_; (with_reducible refine (impl_cutterCode.calls k _ _ l0 _ _ l1 t187 _ ?side1 ?side2 ?side3 ?side4 A6.out).mono ?_); (case side1 => repeat (first | exact (Kd.C_below HR0.out HB.out) | (with_reducible refine Kd.C_alloc ?_ _) | (with_reducible refine Kd.C_drewN ?_ _) | (with_reducible refine Kd.C_drew ?_))); (case side2 => exact HC0.out); (case side3 => repeat (first | exact (Kd.C_below HR1.out HB.out) | (with_reducible refine Kd.C_alloc ?_ _) | (with_reducible refine Kd.C_drewN ?_ _) | (with_reducible refine Kd.C_drew ?_))); (case side4 => exact HC1.out); rintro e w' ⟨rfl, ⟨nd, rfl⟩⟩; refine ⟨_, rfl, ?_⟩) | ((with_reducible refine gate_callee (f := 133) rfl ?_); refine goesL_ (some 20) rfl rfl Try.func133 (by kernel_rfl) rfl #[.int .i64 a2, .int .i64 (l0.length : Int)] rfl (by (try simp only [List.map_toArray, List.map_cons, List.map_nil]); first | done | rfl | (simp only [List.length_drop, List.length_take]; rfl)) ?_; (with_reducible refine (impl_isPlace.calls a2 (l0.length : Int) false _ A7.out).mono ?_); rintro e w' ⟨rfl, ⟨nd, rfl⟩⟩; refine ⟨_, rfl, ?_⟩) | ((with_reducible refine gate_callee (f := 107) rfl ?_); refine goesL_ (some 27) rfl rfl Try.func107 (by kernel_rfl) rfl #[.bool true, .int .i64 2] rfl (by (try simp only [List.map_toArray, List.map_cons, List.map_nil]); first | done | rfl | (simp only [List.length_drop, List.length_take]; rfl)) ?_; (with_reducible refine (impl_codeIf.calls true 2 t195 _ A15.out).mono ?_); rintro e w' ⟨rfl, ⟨nd, rfl⟩⟩; refine ⟨_, rfl, ?_⟩) | ((with_reducible refine gate_dst (N := 28) rfl ?_); refine Kd.R_lit (Kd.int .i64) _ 2 ?hg (N := 28) ?hd (xs := ([t187, t195] : List Int)) (inner := [.int .i64 t187, .int .i64 t195]) (ok := fun _ => True) (okp := fun _ => True) ?hr ?hp (fun _ hk => hk) trivial (Below.refl _ _) (Nat.le_refl _) (by simp) ?_; (case hd => rfl); (case hg => rfl); (case hr => first | (go_simp; done) | (go_simp; rfl)); (case hp => exact (Reps.one (show Kd.M (Kd.int .i64) _ _ _ t187 [.int .i64 t187] from rfl) (Reps.one (show Kd.M (Kd.int .i64) _ _ _ t195 [.int .i64 t195] from rfl) (Reps.none _ _)))); intro v197 w17 ho18 hb hg_ hnew_; clear hg_ hnew_; (first | rw [← Ny196.out] at ho18 | (simp only [Int.reduceToNat] at ho18; rw [← Ny196.out] at ho18)); have n0_ := Aside0.mk (Kd.R_lower ho18 (below_size (by repeat (first | (with_reducible first | exact HB.out | apply below_alloc | apply pw_below_drewN | apply below_drew1) | exact HB.out)))); have n1_ := Aside0.mk (below_step (by repeat (first | (with_reducible first | exact HB.out | apply below_alloc | apply pw_below_drewN | apply below_drew1) | exact HB.out)) hb); clear HB; have HO198 := n0_; have HB := n1_; clear n0_ n1_; clear hb ho18; obtain ⟨Ao19, co19, eo19⟩ := Kd.R_slice HO198.out; subst eo19) | ((with_reducible refine gate_callee (f := 106) rfl ?_); refine goesL_ (some 29) rfl rfl Try.func106 (by kernel_rfl) rfl #[.slice Ao19 y196.length co19] rfl (by (try simp only [List.map_toArray, List.map_cons, List.map_nil]); first | done | rfl | (simp only [List.length_drop, List.length_take]; rfl)) ?_; (with_reducible refine (impl_firstCode.calls k _ _ y196 t199 _ ?side1 ?side2 A16.out).mono ?_); (case side1 => repeat (first | exact (Kd.R_reads' HO198.out).2.2 | (with_reducible refine Kd.C_alloc ?_ _) | (with_reducible refine Kd.C_drewN ?_ _) | (with_reducible refine Kd.C_drew ?_))); (case side2 => exact (Kd.R_reads' HO198.out).2.1); rintro e w' ⟨rfl, ⟨nd, rfl⟩⟩; refine ⟨_, rfl, ?_⟩))
      go_meet
      case rel => exact ⟨_, (t199), (by first | rfl | (simp; done) | (simp [*]; done)), H', ⟨by first | omega | exact Nat.le_refl _⟩, ⟨by repeat (first | (with_reducible first | exact HB.out | apply below_alloc | apply pw_below_drewN | apply below_drew1) | exact HB.out)⟩⟩
  case rest =>
    clear HC5
    try clear c1
    try clear p2
    try clear c6
    try clear c8
    try clear c10
    try clear c13
    obtain ⟨kq, x11_4, rfl, HA, HJ4, HB⟩ := hcut
    cases kq with
    | zero => exact absurd HA.out (by simp [impl_CutAt.j0])
    | succ kj4 =>
      have H := HA.out
      clear HA
      simp only [impl_CutAt.j0] at H
      by_cases c20 : x11_4 = 0
      · rw [if_pos c20] at H
        have c20b0 : (x11_4 == 0) = true := beq_iff_eq.mpr c20
        have c20b1 : (x11_4 != 0) = false := bne_eq_false_iff_eq.mpr c20
        clear c20
        replace H := Option.bind_eq_some_iff.mp H
        obtain ⟨t200, A210, H⟩ := H
        replace H : ((impl_Cam_cut.f kj4 t200 l1 a2 a3).bind fun bt203 => (some (bt203.2, bt203.1, 0))) = some (r1, r2, r3) := H
        have A21 := Aside0.mk A210
        clear A210
        replace H := Option.bind_eq_some_iff.mp H
        obtain ⟨⟨t203, t204⟩, A220, H⟩ := H
        replace H : (some (t204, t203, 0)) = some (r1, r2, r3) := H
        have A22 := Aside0.mk A220
        clear A220
        simp only [Option.some.injEq, Prod.mk.injEq] at H
        obtain ⟨rfl, rfl, rfl⟩ := H
        go_wp2_with (first | ((with_reducible refine gate_callee (f := 81) rfl ?_); refine goesL_ (some 34) rfl rfl Try.func81 (by kernel_rfl) rfl #[.slice A0 l0.length c0] rfl (by (try simp only [List.map_toArray, List.map_cons, List.map_nil]); first | done | rfl | (simp only [List.length_drop, List.length_take]; rfl)) ?_; (with_reducible refine (impl_Cam_int16_81.calls _ _ l0 t200 _ ?side1 ?side2 A21.out).mono ?_); (case side1 => repeat (first | exact (Kd.C_below HR0.out HB.out) | (with_reducible refine Kd.C_alloc ?_ _) | (with_reducible refine Kd.C_drewN ?_ _) | (with_reducible refine Kd.C_drew ?_))); (case side2 => exact HC0.out); rintro e w23 ⟨v201, rfl, ho0, hb⟩; refine ⟨_, rfl, ?_⟩; have n0_ := Aside0.mk (Kd.R_lower ho0 (below_size (by repeat (first | (with_reducible first | exact HB.out | apply below_alloc | apply pw_below_drewN | apply below_drew1) | exact HB.out)))); have n1_ := Aside0.mk (below_step (by repeat (first | (with_reducible first | exact HB.out | apply below_alloc | apply pw_below_drewN | apply below_drew1) | exact HB.out)) hb); clear HB; have HO202 := n0_; have HB := n1_; clear n0_ n1_; (try clear hb); (try clear hb2); (try clear hk); (try clear hi); (try clear ho0); obtain ⟨Ao24, co24, eo24⟩ := Kd.R_slice HO202.out; subst eo24) | ((with_reducible refine gate_callee (f := 135) rfl ?_); refine goesL_ (some 39) rfl rfl Try.func135 (by kernel_rfl) rfl #[.slice Ao24 t200.length co24, .slice A1 l1.length c1, .int .i64 a2, .int .i64 a3] rfl (by (try simp only [List.map_toArray, List.map_cons, List.map_nil]); first | done | rfl | (simp only [List.length_drop, List.length_take]; rfl)) ?_; (with_reducible refine (impl_Cam_cut.calls kj4 (fun k_ => some k_ = (.slice Ao24 t200.length co24 : Value).ownBlock) (.slice Ao24 t200.length co24) t200 _ _ l1 a2 a3 t203 t204 w _ ?side1 ?side2 ?side3 ?side4 A22.out).mono ?_); (case side1 => repeat (first | (with_reducible first | exact HB.out | apply below_alloc | apply pw_below_drewN | apply below_drew1) | exact HB.out)); (case side2 => exact Kd.R_tight rfl HO202.out); (case side3 => exact Kd.C_kept_came (Kd.heap_int .i16) HR1.out (by repeat (first | (with_reducible first | exact HB.out | apply below_alloc | apply pw_below_drewN | apply below_drew1) | exact HB.out)) (fun k_ hs_ => (fun e_ => Kd.R_base HO202.out k_ e_.symm) hs_)); (case side4 => exact HC1.out); rintro e w25 ⟨rfl, hy0, hb, hkp⟩; refine ⟨_, rfl, ?_⟩; have n0_ := Aside0.mk (Kd.R_reok rfl hy0 (fun k_ e_ => HO202.out.1 k_ e_)); have n1_ := Aside0.mk (hb); clear HO202; clear HB; have HO202 := n0_; have HB := n1_; clear n0_ n1_; (try clear hb); (try clear hkp); (try clear hy0)))
        go_ret3
        exact ⟨_, by first | rfl | (simp [errW_none, errW_some] <;> rfl) | (simp [*, errW_none, errW_some] <;> rfl), by (with_reducible repeat (first | apply Kd.R_alloc | apply Kd.R_drewN | apply Kd.R_drew)); exact HO202.out, by repeat (first | (with_reducible first | exact HB.out | apply below_alloc | apply pw_below_drewN | apply below_drew1) | exact HB.out)⟩
      · rw [if_neg c20] at H
        have c20b0 : (x11_4 == 0) = false := beq_eq_false_iff_ne.mpr c20
        have c20b1 : (x11_4 != 0) = true := bne_iff_ne.mpr c20
        simp only [Option.some.injEq, Prod.mk.injEq] at H
        obtain ⟨rfl, rfl, rfl⟩ := H
        go_wp2
        go_ret3
        exact ⟨_, by first | rfl | (simp [errW_none, errW_some] <;> rfl) | (simp [*, errW_none, errW_some] <;> rfl), by first | exact Kd.R_nil _ _ _ _ _ | exact Kd.N_nil _ _ _ _ _ | exact Kd.V_nil _ _ _ _ _ | exact Kd.Q_nil _ _ _ _ _ | exact Kd.S_nil _ _ _ _ _, by repeat (first | (with_reducible first | exact HB.out | apply below_alloc | apply pw_below_drewN | apply below_drew1) | exact HB.out)⟩

/-! ### laws_eqCam: function 69 -/
def laws_eqCam.l0 : Nat → List Int → List Int → Int → Option (Bool)
  | 0, _, _, _ => none
  | k + 1, x0, x1, x5 => if x5 < (x0.length : Int) then (if 0 ≤ x5 then (if x5 < (x1.length : Int) then (if (rd x0 x5) = (rd x1 x5) then (laws_eqCam.l0 k x0 x1 (wrap64 (x5 + 1))) else (some false)) else (none)) else (none)) else (some true)
def laws_eqCam.f (k : Nat) (l0 : List Int) (l1 : List Int) : Option (Bool) := if (l0.length : Int) = (l1.length : Int) then (laws_eqCam.l0 k l0 l1 0) else (some false)
theorem laws_eqCam.mono_l : ∀ k, (∀ y0 y1 y2, LeO (laws_eqCam.l0 k y0 y1 y2) (laws_eqCam.l0 (k + 1) y0 y1 y2))
  | 0 => fun _ _ _ r h => by simp [laws_eqCam.l0] at h
  | k + 1 => by
    have ih0 := laws_eqCam.mono_l k
    · intro y0 y1 y2
      unfold laws_eqCam.l0
      repeat' first
      | (with_reducible exact ih0 _ _ _)
      | (with_reducible exact LeO.refl _)
      | (with_reducible exact LeO.none _)
      | (with_reducible refine LeO.ite ?_ ?_)
      | (with_reducible refine LeO.bind ?_ (fun _ => ?_))
      | exact ih0 _ _ _
      | exact LeO.none _
      | refine LeO.ite ?_ ?_
      | refine LeO.bind ?_ (fun _ => ?_)
theorem laws_eqCam.mono : ∀ a0 a1 k, LeO (laws_eqCam.f k a0 a1) (laws_eqCam.f (k + 1) a0 a1) := by
  intro a0 a1 k
  have ih0 := laws_eqCam.mono_l k
  unfold laws_eqCam.f
  repeat' first
      | (with_reducible exact ih0 _ _ _)
      | (with_reducible exact LeO.refl _)
      | (with_reducible exact LeO.none _)
      | (with_reducible refine LeO.ite ?_ ?_)
      | (with_reducible refine LeO.bind ?_ (fun _ => ?_))
      | exact ih0 _ _ _
      | exact LeO.none _
      | refine LeO.ite ?_ ?_
      | refine LeO.bind ?_ (fun _ => ?_)
set_option maxHeartbeats 8000000 in
set_option maxRecDepth 100000 in
theorem laws_eqCam.calls (k : Nat) (A0 : Option Addr) (c0 : Nat) (l0 : List Int) (A1 : Option Addr) (c1 : Nat) (l1 : List Int) (r : Bool) (w : World) (hr0 : Kd.C (Kd.int .i16) w A0 l0.length l0) (hc0 : l0.length ≤ c0) (hr1 : Kd.C (Kd.int .i16) w A1 l1.length l1) (hc1 : l1.length ≤ c1) (h : laws_eqCam.f k l0 l1 = some r) :
    Calls Try.prog 69 #[.slice A0 l0.length c0, .slice A1 l1.length c1] w fun e w' => e = .returned (.bool r) ∧ Drawn0 w w' := by
  have HR0 := Aside0.mk hr0
  have HC0 := Aside0.mk hc0
  clear hr0 hc0
  have HR1 := Aside0.mk hr1
  have HC1 := Aside0.mk hc1
  clear hr1 hc1
  have H : (if (l0.length : Int) = (l1.length : Int) then (laws_eqCam.l0 k l0 l1 0) else (some false)) = some r := h
  clear h
  by_cases c3 : (l0.length : Int) = (l1.length : Int)
  · rw [if_pos c3] at H
    have c3b0 : ((l0.length : Int) == (l1.length : Int)) = true := beq_iff_eq.mpr c3
    have c3b1 : ((l0.length : Int) != (l1.length : Int)) = false := bne_eq_false_iff_eq.mpr c3
    have c3b2 : (l0.length == l1.length) = true := by first | simpa using c3 | (simp at c3 ⊢; omega)
    clear c3
    have H' := Aside0.mk H
    clear H
    go_enter Try.func69, Try.ntmps69
    go_wp2
    repeat (go_quiet (fail); try go_wp2)
    any_goals (first | (exfalso; (try simp only [decide_eq_true_eq, decide_eq_false_iff_not] at *); omega) | skip)
    go_loopg [5] k (fun kq v5 w' => ∃ (x5_1 : Int), v5 = .int .i64 x5_1 ∧ Aside0 (laws_eqCam.l0 kq l0 l1 x5_1 = some r) ∧ Aside0 (kq ≤ k) ∧ Drawn0 w w')
    case atStart => exact ⟨(0), (by first | rfl | (simp; done) | (simp [*]; done)), H', ⟨Nat.le_refl _⟩, by repeat (first | exact Drawn0.refl _ | apply Drawn0.step)⟩
    case round =>
      clear H'
      try clear c1
      try clear p2
      try clear c3
      try clear c3b0
      try clear c3b1
      try clear c3b2
      obtain ⟨x5_1, rfl, HA, HK1, ⟨m1, rfl⟩⟩ := hrel
      cases gk with
      | zero => exact absurd HA.out (by simp [laws_eqCam.l0])
      | succ k1 =>
        have H := HA.out
        clear HA
        simp only [laws_eqCam.l0] at H
        by_cases c4 : x5_1 < (l0.length : Int)
        · rw [if_pos c4] at H
          have c4b0 : decide (x5_1 < (l0.length : Int)) = true := decide_eq_true c4
          clear c4
          by_cases c5 : 0 ≤ x5_1
          · rw [if_pos c5] at H
            have c5b0 : decide (0 ≤ x5_1) = true := decide_eq_true c5
            clear c5
            by_cases c6 : x5_1 < (l1.length : Int)
            · rw [if_pos c6] at H
              have c6b0 : decide (x5_1 < (l1.length : Int)) = true := decide_eq_true c6
              clear c6
              by_cases c7 : (rd l0 x5_1) = (rd l1 x5_1)
              · rw [if_pos c7] at H
                have c7b0 : ((rd l0 x5_1) == (rd l1 x5_1)) = true := beq_iff_eq.mpr c7
                have c7b1 : ((rd l0 x5_1) != (rd l1 x5_1)) = false := bne_eq_false_iff_eq.mpr c7
                clear c7
                have H' := Aside0.mk H
                clear H
                have p205 : 0 ≤ (x5_1 : Int) := of_decide_eq_true (by first | (with_reducible assumption) | assumption)
                have q205 : x5_1 < (l0.length : Int) := of_decide_eq_true (by first | (with_reducible assumption) | assumption)
                obtain ⟨ad205, e205, hx205_0⟩ := Kd.at_int HR0.out x5_1 p205 q205
                cases e205
                replace p205 := eq_true p205
                replace q205 := eq_true q205
                have p206 : 0 ≤ (x5_1 : Int) := of_decide_eq_true (by first | (with_reducible assumption) | assumption)
                have q206 : x5_1 < (l1.length : Int) := of_decide_eq_true (by first | (with_reducible assumption) | assumption)
                obtain ⟨ad206, e206, hx206_0⟩ := Kd.at_int HR1.out x5_1 p206 q206
                cases e206
                replace p206 := eq_true p206
                replace q206 := eq_true q206
                go_wp2
                repeat (go_quiet (fail); try go_wp2)
                any_goals (first | (exfalso; (try simp only [decide_eq_true_eq, decide_eq_false_iff_not] at *); omega) | skip)
                go_roundg k1
                case measure => have := HK1.out; omega
                case rel => exact ⟨(wrap64 (x5_1 + 1)), (by first | rfl | (simp; done) | (simp [*]; done)), H', ⟨by have := HK1.out; omega⟩, by repeat (first | exact Drawn0.refl _ | apply Drawn0.step)⟩
              · rw [if_neg c7] at H
                have c7b0 : ((rd l0 x5_1) == (rd l1 x5_1)) = false := beq_eq_false_iff_ne.mpr c7
                have c7b1 : ((rd l0 x5_1) != (rd l1 x5_1)) = true := bne_iff_ne.mpr c7
                obtain rfl := Option.some.inj H
                have p205 : 0 ≤ (x5_1 : Int) := of_decide_eq_true (by first | (with_reducible assumption) | assumption)
                have q205 : x5_1 < (l0.length : Int) := of_decide_eq_true (by first | (with_reducible assumption) | assumption)
                obtain ⟨ad205, e205, hx205_0⟩ := Kd.at_int HR0.out x5_1 p205 q205
                cases e205
                replace p205 := eq_true p205
                replace q205 := eq_true q205
                have p206 : 0 ≤ (x5_1 : Int) := of_decide_eq_true (by first | (with_reducible assumption) | assumption)
                have q206 : x5_1 < (l1.length : Int) := of_decide_eq_true (by first | (with_reducible assumption) | assumption)
                obtain ⟨ad206, e206, hx206_0⟩ := Kd.at_int HR1.out x5_1 p206 q206
                cases e206
                replace p206 := eq_true p206
                replace q206 := eq_true q206
                go_wp2
                repeat (go_quiet (fail); try go_wp2)
                any_goals (first | (exfalso; (try simp only [decide_eq_true_eq, decide_eq_false_iff_not] at *); omega) | skip)
                go_ret
                exact ⟨by first | rfl | (simp; done) | (simp [*]; done) | (simp [i64_w]; done), by repeat (first | exact Drawn0.refl _ | apply Drawn0.step)⟩
            · rw [if_neg c6] at H
              exact absurd H (by simp)
          · rw [if_neg c5] at H
            exact absurd H (by simp)
        · rw [if_neg c4] at H
          have c4b0 : decide (x5_1 < (l0.length : Int)) = false := decide_eq_false c4
          clear c4
          obtain rfl := Option.some.inj H
          go_wp2
          repeat (go_quiet (fail); try go_wp2)
          any_goals (first | (exfalso; (try simp only [decide_eq_true_eq, decide_eq_false_iff_not] at *); omega) | skip)
          go_ret
          exact ⟨by first | rfl | (simp; done) | (simp [*]; done) | (simp [i64_w]; done), by repeat (first | exact Drawn0.refl _ | apply Drawn0.step)⟩
  · rw [if_neg c3] at H
    have c3b0 : ((l0.length : Int) == (l1.length : Int)) = false := beq_eq_false_iff_ne.mpr c3
    have c3b1 : ((l0.length : Int) != (l1.length : Int)) = true := bne_iff_ne.mpr c3
    have c3b2 : (l0.length == l1.length) = false := by first | simpa using c3 | (simp at c3 ⊢; omega)
    obtain rfl := Option.some.inj H
    go_enter Try.func69, Try.ntmps69
    go_wp2
    repeat (go_quiet (fail); try go_wp2)
    any_goals (first | (exfalso; (try simp only [decide_eq_true_eq, decide_eq_false_iff_not] at *); omega) | skip)
    go_ret
    exact ⟨by first | rfl | (simp; done) | (simp [*]; done) | (simp [i64_w]; done), by repeat (first | exact Drawn0.refl _ | apply Drawn0.step)⟩

end Go.Proofs.Ytnjcmalmnofbmaa.XFnExactCutAt
