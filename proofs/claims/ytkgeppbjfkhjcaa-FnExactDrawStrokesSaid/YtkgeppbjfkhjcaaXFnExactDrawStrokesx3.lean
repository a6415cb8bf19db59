/- Printed by this repository's own program (wip/tools/xprint.py) for the law FnExactDrawStrokes: Lean functions that say what the Go functions compute, and the proofs that the machine comes to just that; no condition beyond those in each statement. -/
import Derived.Deep.WholeRow
import Derived.Laws.CopyOwn
import Derived.Test.YtkgeppbjfkhjcaaXFnExactDrawStrokesx0
import Derived.Test.YtkgeppbjfkhjcaaXFnExactDrawStrokesx2
namespace Go.Proofs.Ytkgeppbjfkhjcaa.XFnExactDrawStrokes
open Go.RowKit Go.Proofs.YtkgeppbjfkhjcaaW.PrintWords Go.Proofs.YtkgeppbjfkhjcaaW.PrintLast Go.Proofs.YtkgeppbjfkhjcaaW.PrintMore
attribute [local go_sem] max2_int min2_int max_two min_two max_three min_three max_four min_four   -- for this text's walks alone
set_option linter.unusedVariables false
set_option linter.unusedSimpArgs false

/-! ### a plate: an array of 64 rows of bits, told by a list -/
def plA (x : List Int) : Array Value := ((List.range 64).map fun j : Nat => Value.int .u64 (rd x (j : Int))).toArray
@[reducible] def pl0_ : List Int := List.replicate 64 0
/-- A row with one more bit. -/
def inkV (v b : Int) : Int := Go.bits .or .u64 v (IntKind.u64.wrap (2 ^ min b.toNat 64))
def impl_Plate_ink.f (x : List Int) (a0 a1 : Int) : Option (List Int) := if 0 ≤ a1 then (if a1 < 64 then (if 0 ≤ a0 then (if x.length = 64 then some (x.set a1.toNat (inkV (rd x a1) a0)) else none) else none) else none) else none
def spec_inked.f (x : List Int) (a0 a1 : Int) : Option (List Int) := if 0 ≤ a1 then (if a1 < 64 then (if x.length = 64 then some (x.set a1.toNat (inkV (rd x a1) (IntKind.u64.wrap a0))) else none) else none) else none
/-- A new plate has no ink. -/
def plate_new.f : Option (List Int) := some pl0_
theorem plA_size (x : List Int) : (plA x).size = 64 := by simp [plA]
theorem plA_get (x : List Int) (j : Nat) (h : j < 64) : (plA x)[j]? = some (.int .u64 (rd x (j : Int))) := by simp [plA, h]
theorem plA_set (x : List Int) (hx : x.length = 64) (j : Nat) (hj : j < 64) (v : Int) : (plA x).setIfInBounds j (.int .u64 v) = plA (x.set j v) := by
  apply Array.ext_getElem?
  intro i
  rw [Array.getElem?_setIfInBounds]
  by_cases c : j = i
  · subst c
    rw [if_pos rfl, if_pos (by rw [plA_size]; exact hj), plA_get _ _ hj]
    simp [rd, hx, hj]
  · rw [if_neg c]
    by_cases hi : i < 64
    · rw [plA_get _ _ hi, plA_get _ _ hi]
      simp [rd, c]
    · rw [Array.getElem?_eq_none (by rw [plA_size]; omega), Array.getElem?_eq_none (by rw [plA_size]; omega)]
theorem plA_one (x : List Int) : (plA x).all (·.oneCell') = true := by
  rw [Array.all_eq_true]
  intro i hi
  have h := plA_get x i (by rw [plA_size] at hi; exact hi)
  rw [Array.getElem?_eq_getElem hi] at h
  injection h with h
  rw [h]
  rfl
section
variable {P : Program} {ops : Array Oper} {rest : List Oper} {o : Oper} {a : Act} {Q : Exit → Act → World → Prop} {W : World}
theorem pl_store (hgd : o.guard = none) {T : TypeId} {p : Tmp} {v : Operand} (ho : o.op = .store T (.tmp p) v) (hN : o.dst = none) {g : Nat} {cs : Array Value} {x : List Int} (hp : a.eval (.tmp p) = .pointer (some ⟨g, 0, none⟩)) (hv : a.eval v = .agg (plA x))
    (hb : W.heap[g]? = some (.cells cs T (0, 0))) (hx : cs.size = 64) (hi : (P.info? T).map (·.size) = some 64) (h : ∀ w', w' = W.setRow g (plA x) → wpList P ops Q rest a w') : wpList P ops Q (o :: rest) a W := by
  refine store_event hgd ho hN ?_ h
  have hr := run_storeVar_row (P := P) W g T T cs (plA x) hb (by rw [plA_size]; exact hi) (by rw [plA_size]; exact hx) (plA_one x)
  simp only [execOp, ho, hp, hv, Instr.storeAt, Instr.sureAddr, Sem.run_bind, Sem.run_pure, Result.andThen_ok, hr]
theorem pl_load (hgd : o.guard = none) {T e : TypeId} {p : Tmp} (ho : o.op = .load T (.tmp p)) {g : Nat} {x : List Int} (hp : a.eval (.tmp p) = .pointer (some ⟨g, 0, none⟩))
    (hb : W.heap[g]? = some (.cells (plA x) T (0, 0))) (hu : P.underlying T = some (.array 64 e)) (hi : (P.info? T).map (·.size) = some 64) (h : wpList P ops Q rest (a.put o.dst (.agg (plA x))) W) : wpList P ops Q (o :: rest) a W := by
  refine Kd.event_run hgd ?_ h
  have hr := run_loadVar_row (P := P) W g T T (plA x) (0, 0) _ hb hu rfl (by rw [plA_size]; exact hi)
  simp only [execOp, ho, hp, Instr.loadAt, Instr.sureAddr, Sem.run_bind, Sem.run_pure, Result.andThen_ok, hr]
end
theorem pl_cells {P : Program} {W : World} {g : Nat} {x : List Int} {T : TypeId} (hb : W.heap[g]? = some (.cells (plA x) T (0, 0))) : (loadCellsFrom ⟨g, 0, none⟩ 0 64 #[]).run P W = .ok (plA x) W := by
  have := run_loadCells_list (P := P) W ⟨g, 0, none⟩ (plA x).toList (fun j v hv => by
    have hadd : (⟨g, 0, none⟩ : Addr).add j = ⟨g, j, none⟩ := by unfold Addr.add; split <;> simp_all
    rw [hadd, cell_of_row W g j (plA x) T (0, 0) hb]
    simpa using hv)
  simpa [loadCells, plA_size] using this
theorem pl_var {P : Program} {W : World} {g : Nat} {x : List Int} {T e : TypeId} (hb : W.heap[g]? = some (.cells (plA x) T (0, 0))) (hu : P.underlying T = some (.array 64 e)) (hi : (P.info? T).map (·.size) = some 64) : (loadVar T ⟨g, 0, none⟩).run P W = .ok (.agg (plA x)) W :=
  run_loadVar_row (P := P) W g T T (plA x) (0, 0) _ hb hu rfl (by rw [plA_size]; exact hi)
theorem blk_putP {w : World} {g : Nat} {t : TypeId} {cs : Array Value} (h : w.heap[g]? = some (.cells cs t (0, 0))) (x : List Int) : (w.setRow g (plA x)).heap[g]? = some (.cells (plA x) t (0, 0)) := setRow_heap w g cs (plA x) t (0, 0) h
theorem blk_farP {w : World} {g k : Nat} {o : Obj} (h : w.heap[k]? = some o) (hne : k ≠ g) (cs : Array Value) : (w.setRow g cs).heap[k]? = some o := (setRow_other w g k cs hne).trans h
theorem below_setP {w W : World} {g : Nat} {cs : Array Value} (h : Below w.heap.size w W) (hg : w.heap.size ≤ g) : Below w.heap.size w (W.setRow g cs) := below_setRow h hg cs
theorem S_farP {α : Type} {d : Kd α} {e base : Nat} {ok : Nat → Prop} {w : World} {v : Value} {xs : List α} (h : Kd.S d e w base ok v xs) {g : Nat} (hok : ∀ k, ok k → k ≠ g) (cs : Array Value) : Kd.S d e (w.setRow g cs) base ok v xs := Kd.S_step h (fun k ho _ => setRow_other w g k cs (hok k ho))
/-- A state of type 26 at block g of W; what its slices lead to came in by w0. -/
def IsS26 (w0 W : World) (g : Nat) (f0 : List Int) : Prop := W.heap[g]? = some (.cells (plA f0) 26 (0, 0)) ∧ w0.heap.size ≤ g
theorem IsS26.grown {w0 W : World} {g : Nat} {f0 : List Int} {W1 : World} {row : Option Nat} (h : IsS26 w0 W g f0) (hw : W.grownBy W1 row) (hne : some g ≠ row) : IsS26 w0 W1 g f0 := by
  obtain ⟨hb, hg⟩ := h
  exact ⟨blk_grown hb hw hne, hg⟩
theorem IsS26.own_neN {w0 W : World} {g : Nat} {f0 : List Int} {α : Type} {d : Kd α} {e : Nat} {base : Nat} {ok : Nat → Prop} {v : Value} {xs : List α} (h : IsS26 w0 W g f0) (ho : Kd.N d e W base ok v xs) (ht : e ≠ 26) : some g ≠ v.ownBlock := by
  obtain ⟨hb, hg⟩ := h
  exact Kd.N_ne ho hb ht
theorem IsS26.fresh {w0 W : World} {g : Nat} {f0 : List Int} (h : IsS26 w0 W g f0) : ∀ k, W.heap.size ≤ k → k ≠ g := by
  obtain ⟨hb, hg⟩ := h
  exact Kd.freshB hb
theorem IsS26.kept {w0 W : World} {g : Nat} {f0 : List Int} {W1 : World} {S : Nat → Prop} (h : IsS26 w0 W g f0) (hk : Kept W W1 S) (hne : ¬ S g) : IsS26 w0 W1 g f0 := by
  obtain ⟨hb, hg⟩ := h
  exact ⟨blk_kept hb hk hne, hg⟩
theorem IsS26.below {w0 W : World} {g : Nat} {f0 : List Int} {W1 : World} (h : IsS26 w0 W g f0) (hw : Below W.heap.size W W1) : IsS26 w0 W1 g f0 := h.grown (grown_of_below hw none) (by simp)
theorem IsS26.alloc {w0 W : World} {g : Nat} {f0 : List Int} (h : IsS26 w0 W g f0) (o : Obj) : IsS26 w0 (W.alloc o) g f0 := h.below (below_alloc (Below.refl _ _) o)
theorem IsS26.drewN {w0 W : World} {g : Nat} {f0 : List Int} (h : IsS26 w0 W g f0) (m : Nat) : IsS26 w0 (W.drewN m) g f0 := h
theorem IsS26.drew {w0 W : World} {g : Nat} {f0 : List Int} (h : IsS26 w0 W g f0) : IsS26 w0 W.drew g f0 := h
theorem IsS26.at_ {w0 W : World} {g : Nat} {f0 : List Int} {w' : World} {m : Nat} (hq : W.drewN m = w') (h : IsS26 w0 W g f0) : IsS26 w0 w' g f0 := by subst hq; exact IsS26.drewN h m
theorem IsS26.apart {w0 W : World} {g : Nat} {f0 : List Int} {α : Type} {d : Kd α} {e : Nat} {base : Nat} {ok : Nat → Prop} {v : Value} {xs : List α} (h : IsS26 w0 W g f0) (ho : d.R e W base ok v xs) (ht : ∀ q, q ∈ e :: d.E → q ≠ 26) : d.R e W base (fun k => ok k ∧ k ≠ g) v xs := by
  obtain ⟨hb, hg⟩ := h
  exact Kd.R_types ho hb ht
theorem IsS26.own_ne {w0 W : World} {g : Nat} {f0 : List Int} {α : Type} {d : Kd α} {e : Nat} {base : Nat} {ok : Nat → Prop} {v : Value} {xs : List α} (h : IsS26 w0 W g f0) (ho : d.R e W base ok v xs) (ht : e ≠ 26) : some g ≠ v.ownBlock := by
  obtain ⟨hb, hg⟩ := h
  exact Kd.R_ne ho hb ht
theorem IsS26.apartQ {w0 W : World} {g : Nat} {f0 : List Int} {α : Type} {d : Kd α} {e : Nat} {base : Nat} {ok : Nat → Prop} {v : Value} {xs : List α} (h : IsS26 w0 W g f0) (ho : d.Q e W base ok v xs) (ht : ∀ q, q ∈ e :: d.E → q ≠ 26) : d.Q e W base (fun k => ok k ∧ k ≠ g) v xs := by
  obtain ⟨hb, hg⟩ := h
  exact Kd.Q_types ho hb ht
theorem IsS26.own_neQ {w0 W : World} {g : Nat} {f0 : List Int} {α : Type} {d : Kd α} {e : Nat} {base : Nat} {ok : Nat → Prop} {v : Value} {xs : List α} (h : IsS26 w0 W g f0) (ho : d.Q e W base ok v xs) (ht : e ≠ 26) : some g ≠ v.ownBlock := by
  obtain ⟨hb, hg⟩ := h
  exact Kd.Q_ne ho hb ht
theorem IsS26.apartS {w0 W : World} {g : Nat} {f0 : List Int} {α : Type} {d : Kd α} {e : Nat} {base : Nat} {ok : Nat → Prop} {v : Value} {xs : List α} (h : IsS26 w0 W g f0) (ho : d.S e W base ok v xs) (ht : ∀ q, q ∈ e :: d.E → q ≠ 26) : d.S e W base (fun k => ok k ∧ k ≠ g) v xs := by
  obtain ⟨hb, hg⟩ := h
  exact Kd.S_types ho hb ht
theorem IsS26.own_neS {w0 W : World} {g : Nat} {f0 : List Int} {α : Type} {d : Kd α} {e : Nat} {base : Nat} {ok : Nat → Prop} {v : Value} {xs : List α} (h : IsS26 w0 W g f0) (ho : d.S e W base ok v xs) (ht : e ≠ 26) : some g ≠ v.ownBlock := by
  obtain ⟨hb, hg⟩ := h
  exact Kd.S_ne ho hb ht
theorem IsS26.lt {w0 W : World} {g : Nat} {f0 : List Int} (h : IsS26 w0 W g f0) : g < W.heap.size := by
  obtain ⟨hb, hg⟩ := h
  exact blk_lt hb
theorem IsS26.ge {w0 W : World} {g : Nat} {f0 : List Int} (h : IsS26 w0 W g f0) : w0.heap.size ≤ g := by
  obtain ⟨hb, hg⟩ := h
  exact hg
theorem IsS26.ne_blk {w0 W : World} {g : Nat} {f0 : List Int} {a : Nat} {cs : Array Value} {t : TypeId} {fr : Nat × Nat} (h : IsS26 w0 W g f0) (hb2 : W.heap[a]? = some (.cells cs t fr)) (ht : t ≠ 26) : g ≠ a := by
  obtain ⟨hb, hg⟩ := h
  rintro rfl
  rw [hb] at hb2
  injection hb2 with hb2
  injection hb2 with _ ht2
  exact ht ht2.symm
theorem IsS26.far {w0 W : World} {g : Nat} {f0 : List Int} {p : Addr} (h : IsS26 w0 W g f0) (hne : g ≠ p.block) (u : Value) : IsS26 w0 (W.setCell p u) g f0 := by
  obtain ⟨hb, hg⟩ := h
  exact ⟨blk_far hb hne u, hg⟩
theorem IsS26.new (w0 W : World) (f0 : List Int) (hB : Below w0.heap.size w0 W) : IsS26 w0 (W.alloc (.cells (plA f0) 26)) W.heap.size f0 := ⟨by simpa using heap_alloc_new W _, hB.size⟩
/-! ### a plate and the variable of the result, which is a plate, too -/
def IsP2 (b : Nat) (w0 W : World) (g : Nat) (y : List Int) : Prop := IsS26 w0 W g y ∧ W.heap[b]? = some (.cells (plA pl0_) 26 (0, 0)) ∧ b ≠ g ∧ w0.heap.size ≤ b
theorem IsP2.below {b : Nat} {w0 W W1 : World} {g : Nat} {y : List Int} (h : IsP2 b w0 W g y) (hw : Below W.heap.size W W1) : IsP2 b w0 W1 g y := ⟨h.1.below hw, blk_below h.2.1 hw, h.2.2⟩
theorem IsP2.alloc {b : Nat} {w0 W : World} {g : Nat} {y : List Int} (h : IsP2 b w0 W g y) (o : Obj) : IsP2 b w0 (W.alloc o) g y := h.below (below_alloc (Below.refl _ _) o)
theorem IsP2.drewN {b : Nat} {w0 W : World} {g : Nat} {y : List Int} (h : IsP2 b w0 W g y) (m : Nat) : IsP2 b w0 (W.drewN m) g y := h
theorem IsP2.drew {b : Nat} {w0 W : World} {g : Nat} {y : List Int} (h : IsP2 b w0 W g y) : IsP2 b w0 W.drew g y := h
theorem IsP2.at_ {b : Nat} {w0 W : World} {g : Nat} {y : List Int} {w' : World} {m : Nat} (hq : W.drewN m = w') (h : IsP2 b w0 W g y) : IsP2 b w0 w' g y := by subst hq; exact h
theorem IsP2.far {b : Nat} {w0 W : World} {g : Nat} {y : List Int} {p : Addr} (h : IsP2 b w0 W g y) (hne : g ≠ p.block ∧ b ≠ p.block) (u : Value) : IsP2 b w0 (W.setCell p u) g y := ⟨h.1.far hne.1 u, blk_far h.2.1 hne.2 u, h.2.2⟩
theorem IsP2.ge {b : Nat} {w0 W : World} {g : Nat} {y : List Int} (h : IsP2 b w0 W g y) : w0.heap.size ≤ g := h.1.ge
theorem IsP2.lt {b : Nat} {w0 W : World} {g : Nat} {y : List Int} (h : IsP2 b w0 W g y) : g < W.heap.size := h.1.lt
theorem IsP2.ne_lt {b : Nat} {w0 W : World} {g : Nat} {y : List Int} (h : IsP2 b w0 W g y) : g ≠ W.heap.size ∧ b ≠ W.heap.size := ⟨Nat.ne_of_lt h.1.lt, Nat.ne_of_lt (blk_lt h.2.1)⟩
theorem IsP2.call {b : Nat} {w0 W W1 : World} {g : Nat} {y y1 : List Int} (h : IsP2 b w0 W g y) (hi : IsS26 w0 W1 g y1) (hk : KeepBut W W1 g none) : IsP2 b w0 W1 g y1 := ⟨hi, KeepBut.blk hk h.2.1 h.2.2.1 (by simp), h.2.2⟩
/-! ### spec_l07Ink: function 26 -/
def spec_l07Ink.l0 : Nat → List (S60) → Int → Int → List Int → Option (List Int)
  | 0, _, _, _, _ => none
  | k + 1, x10, x11, x12, x1000 => if x12 < x11 then (if 0 ≤ x12 then (if x12 < (x10.length : Int) then ((spec_inked.f x1000 ((rd_T60 x10 x12).f0) ((rd_T60 x10 x12).f1)).bind fun t195 => (spec_l07Ink.l0 k x10 x11 (wrap64 (x12 + 1)) t195)) else (none)) else (none)) else (some x1000)
def spec_l07Ink.f (k : Nat) (s0_0 : List Int) (a1_0 : Int) (a1_1 : Int) (a2_0 : Int) (a2_1 : Int) : Option (List Int) := (spec_l07Line.f k a1_0 a1_1 a2_0 a2_1).bind fun t190 => (spec_l07Ink.l0 k t190 (t190.length : Int) 0 s0_0)
theorem spec_l07Ink.mono_l : ∀ k, (∀ y0 y1 y2 y3, LeO (spec_l07Ink.l0 k y0 y1 y2 y3) (spec_l07Ink.l0 (k + 1) y0 y1 y2 y3))
  | 0 => fun _ _ _ _ r h => by simp [spec_l07Ink.l0] at h
  | k + 1 => by
    have ih0 := spec_l07Ink.mono_l k
    · intro y0 y1 y2 y3
      unfold spec_l07Ink.l0
      repeat' first
      | (with_reducible exact ih0 _ _ _ _)
      | (with_reducible exact spec_l07Line.mono _ _ _ _ _)
      | (with_reducible exact LeO.refl _)
      | (with_reducible exact LeO.none _)
      | (with_reducible refine LeO.ite ?_ ?_)
      | (with_reducible refine LeO.bind ?_ (fun _ => ?_))
      | exact ih0 _ _ _ _
      | exact spec_l07Line.mono _ _ _ _ _
      | exact LeO.none _
      | refine LeO.ite ?_ ?_
      | refine LeO.bind ?_ (fun _ => ?_)
theorem spec_l07Ink.mono : ∀ a0 a1 a2 a3 a4 k, LeO (spec_l07Ink.f k a0 a1 a2 a3 a4) (spec_l07Ink.f (k + 1) a0 a1 a2 a3 a4) := by
  intro a0 a1 a2 a3 a4 k
  have ih0 := spec_l07Ink.mono_l k
  unfold spec_l07Ink.f
  repeat' first
      | (with_reducible exact ih0 _ _ _ _)
      | (with_reducible exact spec_l07Line.mono _ _ _ _ _)
      | (with_reducible exact LeO.refl _)
      | (with_reducible exact LeO.none _)
      | (with_reducible refine LeO.ite ?_ ?_)
      | (with_reducible refine LeO.bind ?_ (fun _ => ?_))
      | exact ih0 _ _ _ _
      | exact spec_l07Line.mono _ _ _ _ _
      | exact LeO.none _
      | refine LeO.ite ?_ ?_
      | refine LeO.bind ?_ (fun _ => ?_)
set_option maxHeartbeats 8000000 in
set_option maxRecDepth 100000 in
theorem spec_l07Ink.calls (k : Nat) (g : Nat) (s0_0 : List Int) (a1_0 : Int) (a1_1 : Int) (a2_0 : Int) (a2_1 : Int) (r : List Int) (w0 w : World) (hI : IsS26 w0 w g s0_0) (hB : Below w0.heap.size w0 w) (h : spec_l07Ink.f k s0_0 a1_0 a1_1 a2_0 a2_1 = some r) :
    Calls Try.prog 26 #[.pointer (some ⟨g, 0, none⟩), .agg #[.int .i16 a1_0, .int .i16 a1_1], .agg #[.int .i16 a2_0, .int .i16 a2_1]] w fun e w' => e = .returned (.tuple #[]) ∧ IsS26 w0 w' g r ∧ Below w0.heap.size w0 w' ∧ KeepBut w w' g none := by
  have hu60 := Try.underlying60
  have HI0 := Aside0.mk hI
  have HK := Aside0.mk (KeepBut.refl w g none)
  have HL := Aside0.mk hB.size
  clear hI
  have HW0 := Aside0.mk hB.size
  have HB := Aside0.mk hB
  clear hB
  have H : ((spec_l07Line.f k a1_0 a1_1 a2_0 a2_1).bind fun t190 => (spec_l07Ink.l0 k t190 (t190.length : Int) 0 s0_0)) = some r := h
  clear h
  replace H := Option.bind_eq_some_iff.mp H
  obtain ⟨t190, A40, H⟩ := H
  replace H : (spec_l07Ink.l0 k t190 (t190.length : Int) 0 s0_0) = some r := H
  have A4 := Aside0.mk A40
  clear A40
  have H' := Aside0.mk H
  clear H
  go_enter Try.func26, Try.ntmps26
  go_wp2_with (first | ((with_reducible refine gate_dst (N := 4) rfl ?_); refine box_event ?hg (N := 4) ?hd (cs := #[.int .i16 a1_0, .int .i16 a1_1]) (t := 60) ?hr ?_; (case hd => rfl); (case hg => rfl); (case hr => first | (go_simp; done) | (go_simp; rfl)); intro gb188 hg w5 hbox hb; have n0_ := Aside0.mk (IsS26.below (by repeat (first | (with_reducible first | exact HI0.out | apply IsS26.alloc | apply IsS26.drewN | apply IsS26.drew | apply IsS26.set_0) | exact HI0.out | (simp only [Int.add_zero]))) hb); have n1_ := Aside0.mk (KeepBut.trans (by repeat (first | (with_reducible first | exact HK.out | apply KeepBut.set_ | apply keep_drewN | apply keep_drew | apply keep_alloc) | exact HK.out)) (KeepBut.of_below hb g none) (.inl rfl)); have n2_ := Aside0.mk (below_step (by repeat (first | (with_reducible first | exact HB.out | apply below_alloc | apply pw_below_drewN | apply below_drew1 | refine below_set ?_ (IsS26.ge HI0.out)) | exact HB.out)) hb); have n3_ := Aside0.mk (hbox); have n4_ := Aside0.mk ((by rw [hg]; exact (keep_size (w := w) (g := g) (row := none) (by repeat (first | (with_reducible first | exact HK.out | apply KeepBut.set_ | apply keep_drewN | apply keep_drew | apply keep_alloc) | exact HK.out))) : w.heap.size ≤ gb188)); have n5_ := Aside0.mk ((Nat.le_trans HW0.out (by rw [hg]; exact (keep_size (w := w) (g := g) (row := none) (by repeat (first | (with_reducible first | exact HK.out | apply KeepBut.set_ | apply keep_drewN | apply keep_drew | apply keep_alloc) | exact HK.out))) : w.heap.size ≤ gb188) : w0.heap.size ≤ gb188)); have n6_ := Aside0.mk ((by rw [hg]; exact Nat.ne_of_lt (IsS26.lt (show IsS26 w0 _ g s0_0 from by repeat (first | (with_reducible first | exact HI0.out | apply IsS26.alloc | apply IsS26.drewN | apply IsS26.drew | apply IsS26.set_0) | exact HI0.out | (simp only [Int.add_zero])))) : g ≠ gb188)); have n7_ := Aside0.mk ((by rw [hg]; exact Nat.ne_of_gt (IsS26.lt (show IsS26 w0 _ g s0_0 from by repeat (first | (with_reducible first | exact HI0.out | apply IsS26.alloc | apply IsS26.drewN | apply IsS26.drew | apply IsS26.set_0) | exact HI0.out | (simp only [Int.add_zero])))) : gb188 ≠ g)); clear HI0; clear HK; clear HB; have HI0 := n0_; have HK := n1_; have HB := n2_; have BK188 := n3_; have GW188 := n4_; have GE188 := n5_; have NB0_188 := n6_; have NB188_0 := n7_; clear n0_ n1_ n2_ n3_ n4_ n5_ n6_ n7_; clear hb hbox hg) | ((with_reducible refine gate_dst (N := 5) rfl ?_); refine box_event ?hg (N := 5) ?hd (cs := #[.int .i16 a2_0, .int .i16 a2_1]) (t := 60) ?hr ?_; (case hd => rfl); (case hg => rfl); (case hr => first | (go_simp; done) | (go_simp; rfl)); intro gb189 hg w6 hbox hb; have n0_ := Aside0.mk (IsS26.below (by repeat (first | (with_reducible first | exact HI0.out | apply IsS26.alloc | apply IsS26.drewN | apply IsS26.drew | apply IsS26.set_0 | refine IsS26.far ?_ NB0_188.out _) | exact HI0.out | (simp only [Int.add_zero]))) hb); have n1_ := Aside0.mk (blk_below (g := gb188) (o := .cells #[.int .i16 a1_0, .int .i16 a1_1] 60 (0, 0)) (by (with_reducible repeat (first | refine blk_drewN ?_ _ | refine blk_drew ?_ | refine blk_alloc ?_ _)); exact BK188.out) hb); have n2_ := Aside0.mk (KeepBut.trans (by repeat (first | (with_reducible first | exact HK.out | apply KeepBut.set_ | apply keep_drewN | apply keep_drew | apply keep_alloc | refine keep_far ?_ GW188.out _) | exact HK.out)) (KeepBut.of_below hb g none) (.inl rfl)); have n3_ := Aside0.mk (below_step (by repeat (first | (with_reducible first | exact HB.out | apply below_alloc | apply pw_below_drewN | apply below_drew1 | refine below_set ?_ (IsS26.ge HI0.out) | refine below_set ?_ GE188.out) | exact HB.out)) hb); have n4_ := Aside0.mk (hbox); have n5_ := Aside0.mk ((by rw [hg]; exact (keep_size (w := w) (g := g) (row := none) (by repeat (first | (with_reducible first | exact HK.out | apply KeepBut.set_ | apply keep_drewN | apply keep_drew | apply keep_alloc | refine keep_far ?_ GW188.out _) | exact HK.out))) : w.heap.size ≤ gb189)); have n6_ := Aside0.mk ((Nat.le_trans HW0.out (by rw [hg]; exact (keep_size (w := w) (g := g) (row := none) (by repeat (first | (with_reducible first | exact HK.out | apply KeepBut.set_ | apply keep_drewN | apply keep_drew | apply keep_alloc | refine keep_far ?_ GW188.out _) | exact HK.out))) : w.heap.size ≤ gb189) : w0.heap.size ≤ gb189)); have n7_ := Aside0.mk ((by rw [hg]; exact Nat.ne_of_lt (blk_lt (g := gb188) (o := .cells #[.int .i16 a1_0, .int .i16 a1_1] 60 (0, 0)) (by (with_reducible repeat (first | refine blk_drewN ?_ _ | refine blk_drew ?_ | refine blk_alloc ?_ _)); exact BK188.out)) : gb188 ≠ gb189)); have n8_ := Aside0.mk ((by rw [hg]; exact Nat.ne_of_gt (blk_lt (g := gb188) (o := .cells #[.int .i16 a1_0, .int .i16 a1_1] 60 (0, 0)) (by (with_reducible repeat (first | refine blk_drewN ?_ _ | refine blk_drew ?_ | refine blk_alloc ?_ _)); exact BK188.out)) : gb189 ≠ gb188)); have n9_ := Aside0.mk ((by rw [hg]; exact Nat.ne_of_lt (IsS26.lt (show IsS26 w0 _ g s0_0 from by repeat (first | (with_reducible first | exact HI0.out | apply IsS26.alloc | apply IsS26.drewN | apply IsS26.drew | apply IsS26.set_0 | refine IsS26.far ?_ NB0_188.out _) | exact HI0.out | (simp only [Int.add_zero])))) : g ≠ gb189)); have n10_ := Aside0.mk ((by rw [hg]; exact Nat.ne_of_gt (IsS26.lt (show IsS26 w0 _ g s0_0 from by repeat (first | (with_reducible first | exact HI0.out | apply IsS26.alloc | apply IsS26.drewN | apply IsS26.drew | apply IsS26.set_0 | refine IsS26.far ?_ NB0_188.out _) | exact HI0.out | (simp only [Int.add_zero])))) : gb189 ≠ g)); clear HI0; clear BK188; clear HK; clear HB; have HI0 := n0_; have BK188 := n1_; have HK := n2_; have HB := n3_; have BK189 := n4_; have GW189 := n5_; have GE189 := n6_; have NB188_189 := n7_; have NB189_188 := n8_; have NB0_189 := n9_; have NB189_0 := n10_; clear n0_ n1_ n2_ n3_ n4_ n5_ n6_ n7_ n8_ n9_ n10_; clear hb hbox hg; have hnb7 := NB188_189.out; have hnc7 := NB189_188.out; have hnb8 := NB188_0.out; have hnc8 := NB0_188.out; have hcz9_0 : w6.cell? ⟨gb188, 0, none⟩ = some (.int .i16 a1_0) := (blk_cell BK188.out 0).trans rfl; have hcz9_1 : w6.cell? ⟨gb188, 1, none⟩ = some (.int .i16 a1_1) := (blk_cell BK188.out 1).trans rfl; have hfz9_0 := blk_frozen BK188.out 0; have hfz9_1 := blk_frozen BK188.out 1; have hnb10 := NB189_0.out; have hnc10 := NB0_189.out; have hcz11_0 : w6.cell? ⟨gb189, 0, none⟩ = some (.int .i16 a2_0) := (blk_cell BK189.out 0).trans rfl; have hcz11_1 : w6.cell? ⟨gb189, 1, none⟩ = some (.int .i16 a2_1) := (blk_cell BK189.out 1).trans rfl; have hfz11_0 := blk_frozen BK189.out 0; have hfz11_1 := blk_frozen BK189.out 1) | ((with_reducible refine gate_callee (f := 46) rfl ?_); refine goesL_ (some 10) rfl rfl Try.func46 (by kernel_rfl) rfl #[.agg #[.int .i16 a1_0, .int .i16 a1_1], .agg #[.int .i16 a2_0, .int .i16 a2_1]] rfl (by (try simp only [List.map_toArray, List.map_cons, List.map_nil]); first | done | rfl | (simp only [List.length_drop, List.length_take]; rfl)) ?_; (with_reducible refine (spec_l07Line.calls k a1_0 a1_1 a2_0 a2_1 t190 _ A4.out).mono ?_); rintro e w12 ⟨v191, rfl, ho0, hb⟩; refine ⟨_, rfl, ?_⟩; have n0_ := Aside0.mk (Kd.R_lower (Kd.R_newB (Kd.R_newB ho0 (g := gb188) (o := .cells #[.int .i16 a1_0, .int .i16 a1_1] 60 (0, 0)) (by (with_reducible repeat (first | refine blk_drewN ?_ _ | refine blk_drew ?_ | refine blk_alloc ?_ _)); exact BK188.out)) (g := gb189) (o := .cells #[.int .i16 a2_0, .int .i16 a2_1] 60 (0, 0)) (by (with_reducible repeat (first | refine blk_drewN ?_ _ | refine blk_drew ?_ | refine blk_alloc ?_ _)); exact BK189.out)) (keep_size (w := w) (g := g) (row := none) (by repeat (first | (with_reducible first | exact HK.out | apply KeepBut.set_ | apply keep_drewN | apply keep_drew | apply keep_alloc | refine keep_far ?_ GW188.out _ | refine keep_far ?_ GW189.out _) | exact HK.out)))); have n1_ := Aside0.mk (IsS26.below (by repeat (first | (with_reducible first | exact HI0.out | apply IsS26.alloc | apply IsS26.drewN | apply IsS26.drew | apply IsS26.set_0 | refine IsS26.far ?_ NB0_188.out _ | refine IsS26.far ?_ NB0_189.out _) | exact HI0.out | (simp only [Int.add_zero]))) hb); have n2_ := Aside0.mk (blk_below (g := gb188) (o := .cells #[.int .i16 a1_0, .int .i16 a1_1] 60 (0, 0)) (by (with_reducible repeat (first | refine blk_drewN ?_ _ | refine blk_drew ?_ | refine blk_alloc ?_ _)); exact BK188.out) hb); have n3_ := Aside0.mk (blk_below (g := gb189) (o := .cells #[.int .i16 a2_0, .int .i16 a2_1] 60 (0, 0)) (by (with_reducible repeat (first | refine blk_drewN ?_ _ | refine blk_drew ?_ | refine blk_alloc ?_ _)); exact BK189.out) hb); have n4_ := Aside0.mk (KeepBut.trans (by repeat (first | (with_reducible first | exact HK.out | apply KeepBut.set_ | apply keep_drewN | apply keep_drew | apply keep_alloc | refine keep_far ?_ GW188.out _ | refine keep_far ?_ GW189.out _) | exact HK.out)) (KeepBut.of_below hb g none) (.inl rfl)); have n5_ := Aside0.mk (below_step (by repeat (first | (with_reducible first | exact HB.out | apply below_alloc | apply pw_below_drewN | apply below_drew1 | refine below_set ?_ (IsS26.ge HI0.out) | refine below_set ?_ GE188.out | refine below_set ?_ GE189.out) | exact HB.out)) hb); clear HI0; clear BK188; clear BK189; clear HK; clear HB; have HO192 := n0_; have HI0 := n1_; have BK188 := n2_; have BK189 := n3_; have HK := n4_; have HB := n5_; clear n0_ n1_ n2_ n3_ n4_ n5_; (try clear hb); (try clear hb2); (try clear hk); (try clear hi); (try clear ho0); obtain ⟨Ao13, co13, eo13⟩ := Kd.R_slice HO192.out; subst eo13))
  go_loopg [7] k (fun kq v12 w' => ∃ (x12_1 : Int) (x1000_1 : List Int), v12 = .int .i64 x12_1 ∧ Aside0 (spec_l07Ink.l0 kq t190 (t190.length : Int) x12_1 x1000_1 = some r) ∧ Aside0 (kq ≤ k) ∧ Aside0 (Kd.R k60 60 w' w.heap.size (fun k_ => k_ ≠ gb188 ∧ k_ ≠ gb189) (.slice Ao13 t190.length co13) t190) ∧ Aside0 (w'.heap[gb188]? = some (.cells #[.int .i16 a1_0, .int .i16 a1_1] 60 (0, 0))) ∧ Aside0 (w'.heap[gb189]? = some (.cells #[.int .i16 a2_0, .int .i16 a2_1] 60 (0, 0))) ∧ Aside0 (IsS26 w0 w' g x1000_1) ∧ Aside0 (KeepBut w w' g none) ∧ Aside0 (Below w0.heap.size w0 w'))
  case atStart => exact ⟨(0), (s0_0), (by first | rfl | (simp; done) | (simp [*]; done)), H', ⟨Nat.le_refl _⟩, ⟨by (with_reducible repeat (first | apply Kd.R_alloc | apply Kd.R_drewN | apply Kd.R_drew)); exact Kd.R_mono HO192.out (fun _ hk => ⟨hk.1.2, hk.2⟩)⟩, ⟨by (with_reducible repeat (first | refine blk_drewN ?_ _ | refine blk_drew ?_ | refine blk_alloc ?_ _)); exact BK188.out⟩, ⟨by (with_reducible repeat (first | refine blk_drewN ?_ _ | refine blk_drew ?_ | refine blk_alloc ?_ _)); exact BK189.out⟩, ⟨by repeat (first | (with_reducible first | exact HI0.out | apply IsS26.alloc | apply IsS26.drewN | apply IsS26.drew | apply IsS26.set_0 | refine IsS26.far ?_ NB0_188.out _ | refine IsS26.far ?_ NB0_189.out _) | exact HI0.out | (simp only [Int.add_zero]))⟩, ⟨by repeat (first | (with_reducible first | exact HK.out | apply KeepBut.set_ | apply keep_drewN | apply keep_drew | apply keep_alloc | refine keep_far ?_ GW188.out _ | refine keep_far ?_ GW189.out _) | exact HK.out)⟩, ⟨by repeat (first | (with_reducible first | exact HB.out | apply below_alloc | apply pw_below_drewN | apply below_drew1 | refine below_set ?_ (IsS26.ge HI0.out) | refine below_set ?_ GE188.out | refine below_set ?_ GE189.out) | exact HB.out)⟩⟩
  case round =>
    clear H'
    try clear c1
    try clear c2
    try clear p2
    try clear c5
    try clear c7
    try clear c8
    try clear c10
    try clear hcz11_0
    try clear hcz11_1
    try clear hcz9_0
    try clear hcz9_1
    try clear hfz11_0
    try clear hfz11_1
    try clear hfz9_0
    try clear hfz9_1
    obtain ⟨x12_1, x1000_1, rfl, HA, HK1, HO_10, BK188, BK189, HI0, HK, HB⟩ := hrel
    cases gk with
    | zero => exact absurd HA.out (by simp [spec_l07Ink.l0])
    | succ k1 =>
      have H := HA.out
      clear HA
      simp only [spec_l07Ink.l0] at H
      by_cases c14 : x12_1 < (t190.length : Int)
      · rw [if_pos c14] at H
        have c14b0 : decide (x12_1 < (t190.length : Int)) = true := decide_eq_true c14
        clear c14
        by_cases c15 : 0 ≤ x12_1
        · rw [if_pos c15] at H
          have c15b0 : decide (0 ≤ x12_1) = true := decide_eq_true c15
          clear c15
          by_cases c16 : x12_1 < (t190.length : Int)
          · rw [if_pos c16] at H
            have c16b0 : decide (x12_1 < (t190.length : Int)) = true := decide_eq_true c16
            clear c16
            replace H := Option.bind_eq_some_iff.mp H
            obtain ⟨t195, A170, H⟩ := H
            replace H : (spec_l07Ink.l0 k1 t190 (t190.length : Int) (wrap64 (x12_1 + 1)) t195) = some r := H
            have A17 := Aside0.mk A170
            clear A170
            have H' := Aside0.mk H
            clear H
            have p193 : 0 ≤ (x12_1 : Int) := of_decide_eq_true (by first | (with_reducible assumption) | assumption)
            have q193 : x12_1 < (t190.length : Int) := of_decide_eq_true (by first | (with_reducible assumption) | assumption)
            obtain ⟨ad193, e193, hx193_0, hx193_1⟩ := at_T60 (Kd.R_reads' HO_10.out).2.2 x12_1 p193 q193
            cases e193
            replace p193 := eq_true p193
            replace q193 := eq_true q193
            go_wp2
            have AI := A17.out
            unfold spec_inked.f at AI
            by_cases c21 : ¬ (0 ≤ ((rd_T60 t190 x12_1).f1))
            · rw [if_neg c21] at AI; cases AI
            replace c21 := Decidable.not_not.mp c21
            rw [if_pos c21] at AI
            by_cases c22 : ¬ (((rd_T60 t190 x12_1).f1) < 64)
            · rw [if_neg c22] at AI; cases AI
            replace c22 := Decidable.not_not.mp c22
            rw [if_pos c22] at AI
            by_cases c24 : ¬ (x1000_1.length = 64)
            · rw [if_neg c24] at AI; cases AI
            replace c24 := Decidable.not_not.mp c24
            rw [if_pos c24] at AI
            have EI := Aside0.mk (Option.some.inj AI)
            clear AI A17
            have C1 := Aside0.mk c21
            have C2 := Aside0.mk c22
            have C4 := Aside0.mk c24
            have e1 : (0 ≤ ((rd_T60 t190 x12_1).f1)) = True := eq_true c21
            have e2 : (((rd_T60 t190 x12_1).f1) < 64) = True := eq_true c22
            clear c21 c22 c24
            have hcell : wr.cell? ⟨g, ((rd_T60 t190 x12_1).f1).toNat, none⟩ = some (.int .u64 (rd x1000_1 ((rd_T60 t190 x12_1).f1))) := (blk_cell HI0.out.1 ((rd_T60 t190 x12_1).f1).toNat).trans (by rw [plA_get _ _ (by have := C1.out; have := C2.out; omega), Int.toNat_of_nonneg C1.out])
            have hfro : wr.drew.frozen? ⟨g, ((rd_T60 t190 x12_1).f1).toNat, none⟩ = false := blk_frozen (blk_drew HI0.out.1) _
            have n0_ := Aside0.mk (Kd.R_drew HO_10.out)
            have n1_ := Aside0.mk (blk_drew BK188.out)
            have n2_ := Aside0.mk (blk_drew BK189.out)
            have n3_ := Aside0.mk (IsS26.drew HI0.out)
            have n4_ := Aside0.mk (keep_drew HK.out)
            have n5_ := Aside0.mk (HB.out.drew)
            clear HO_10 BK188 BK189 HI0 HK HB
            have HO_10 := n0_
            have BK188 := n1_
            have BK189 := n2_
            have HI0 := n3_
            have HK := n4_
            have HB := n5_
            clear n0_ n1_ n2_ n3_ n4_ n5_
            refine start_ (n := 20) (S := fun w' => w'.cell? ⟨g, ((rd_T60 t190 x12_1).f1).toNat, none⟩ = some (.int .u64 (rd x1000_1 ((rd_T60 t190 x12_1).f1))) ∧ w'.cell? (ad193.add ((x12_1).toNat * 2)) = some (.int .i16 ((rd_T60 t190 x12_1).f0)) ∧ w'.cell? ⟨(ad193.add ((x12_1).toNat * 2)).block, (ad193.add ((x12_1).toNat * 2)).off + 1, none⟩ = some (.int .i16 ((rd_T60 t190 x12_1).f1))) (ds := [19]) #[false, false, false, false, false, false, false, false, false, false, false, false, false, false, false, false, false, false, false, false] (by kernel_rfl) rfl rfl ⟨hcell, hx193_0, hx193_1⟩ (fun hHeld => ?_)
            clear hcell hx193_0 hx193_1
            generalize wr.drew = wd at HO_10 BK188 BK189 HI0 HK HB hfro hHeld ⊢
            have hcell := hHeld.1
            refine pure_ (i := 0) (N := some 17) (v := ?_) (a' := ?_) #[true, false, false, false, false, false, false, false, false, false, false, false, false, false, false, false, false, false, false, false] rfl rfl (by kernel_rfl) (fun _ _ _ h => h) (Or.inl ⟨by rfl, ?_⟩) ?_ ?_
            rotate_left
            · intro w'
              go_simp
              first | done | with_reducible rfl | rfl
            rotate_left
            · simp only [Act.put, List.setIfInBounds_toArray, List.set_cons_zero, List.set_cons_succ, i64_w, i32_w]
              rfl
            refine pure_ (i := 1) (N := some 18) (v := ?_) (a' := ?_) #[true, true, false, false, false, false, false, false, false, false, false, false, false, false, false, false, false, false, false, false] rfl rfl (by kernel_rfl) (fun _ _ _ h => h) (Or.inl ⟨by rfl, ?_⟩) ?_ ?_
            rotate_left
            · intro w'
              go_simp
              first | done | with_reducible rfl | rfl
            rotate_left
            · simp only [Act.put, List.setIfInBounds_toArray, List.set_cons_zero, List.set_cons_succ, i64_w, i32_w]
              rfl
            refine pure_ (i := 2) (N := some 19) (v := ?_) (a' := ?_) #[true, true, true, false, false, false, false, false, false, false, false, false, false, false, false, false, false, false, false, false] rfl rfl (by kernel_rfl) (fun _ _ _ h => h) (Or.inl ⟨by rfl, ?_⟩) ?_ ?_
            rotate_left
            · intro w'
              go_simp
              first | done | with_reducible rfl | rfl
            rotate_left
            · simp only [Act.put, List.setIfInBounds_toArray, List.set_cons_zero, List.set_cons_succ, i64_w, i32_w]
              rfl
            refine pure_ (i := 3) (N := some 20) (v := ?_) (a' := ?_) #[true, true, true, true, false, false, false, false, false, false, false, false, false, false, false, false, false, false, false, false] rfl rfl (by kernel_rfl) (fun _ _ _ h => h) (Or.inl ⟨by rfl, ?_⟩) ?_ ?_
            rotate_left
            · intro w'
              go_simp
              first | done | with_reducible rfl | rfl
            rotate_left
            · simp only [Act.put, List.setIfInBounds_toArray, List.set_cons_zero, List.set_cons_succ, i64_w, i32_w]
              rfl
            refine pure_ (i := 4) (N := some 21) (v := ?_) (a' := ?_) #[true, true, true, true, true, false, false, false, false, false, false, false, false, false, false, false, false, false, false, false] rfl rfl (by kernel_rfl) (fun _ _ _ h => h) (Or.inl ⟨by rfl, ?_⟩) ?_ ?_
            rotate_left
            · intro w'
              go_simp
              first | done | with_reducible rfl | rfl
            rotate_left
            · simp only [Act.put, List.setIfInBounds_toArray, List.set_cons_zero, List.set_cons_succ, i64_w, i32_w]
              rfl
            refine pure_ (i := 6) (N := some 23) (v := ?_) (a' := ?_) #[true, true, true, true, true, false, true, false, false, false, false, false, false, false, false, false, false, false, false, false] rfl rfl (by kernel_rfl) (fun _ _ _ h => h) (Or.inl ⟨by rfl, ?_⟩) ?_ ?_
            rotate_left
            · intro w'
              go_simp
              first | done | with_reducible rfl | rfl
            rotate_left
            · simp only [Act.put, List.setIfInBounds_toArray, List.set_cons_zero, List.set_cons_succ, i64_w, i32_w]
              rfl
            refine pure_ (i := 9) (N := some 26) (v := ?_) (a' := ?_) #[true, true, true, true, true, false, true, false, false, true, false, false, false, false, false, false, false, false, false, false] rfl rfl (by kernel_rfl) (fun _ _ _ h => h) (Or.inl ⟨by rfl, ?_⟩) ?_ ?_
            rotate_left
            · intro w'
              go_simp
              first | done | with_reducible rfl | rfl
            rotate_left
            · simp only [Act.put, List.setIfInBounds_toArray, List.set_cons_zero, List.set_cons_succ, i64_w, i32_w]
              rfl
            refine pure_ (i := 10) (N := some 27) (v := ?_) (a' := ?_) #[true, true, true, true, true, false, true, false, false, true, true, false, false, false, false, false, false, false, false, false] rfl rfl (by kernel_rfl) (fun _ _ _ h => h) (Or.inl ⟨by rfl, ?_⟩) ?_ ?_
            rotate_left
            · intro w'
              go_simp
              first | done | with_reducible rfl | rfl
            rotate_left
            · simp only [Act.put, List.setIfInBounds_toArray, List.set_cons_zero, List.set_cons_succ, i64_w, i32_w]
              rfl
            refine pure_ (i := 11) (N := some 28) (v := ?_) (a' := ?_) #[true, true, true, true, true, false, true, false, false, true, true, true, false, false, false, false, false, false, false, false] rfl rfl (by kernel_rfl) (fun _ _ _ h => h) (Or.inl ⟨by rfl, ?_⟩) ?_ ?_
            rotate_left
            · intro w'
              go_simp
              first | done | with_reducible rfl | rfl
            rotate_left
            · simp only [Act.put, List.setIfInBounds_toArray, List.set_cons_zero, List.set_cons_succ, i64_w, i32_w]
              rfl
            refine pure_ (i := 12) (N := some 29) (v := ?_) (a' := ?_) #[true, true, true, true, true, false, true, false, false, true, true, true, true, false, false, false, false, false, false, false] rfl rfl (by kernel_rfl) (fun _ _ _ h => h) (Or.inl ⟨by rfl, ?_⟩) ?_ ?_
            rotate_left
            · intro w'
              go_simp
              first | done | with_reducible rfl | rfl
            rotate_left
            · simp only [Act.put, List.setIfInBounds_toArray, List.set_cons_zero, List.set_cons_succ, i64_w, i32_w]
              rfl
            refine take_ (i := 5) (N := some 22) (v := ?_) (a' := ?_) #[true, true, true, true, true, true, true, false, false, true, true, true, true, false, false, false, false, false, false, false] rfl rfl (by kernel_rfl) (fun _ _ _ h => h) (Or.inl ⟨by rfl, ?_⟩) hHeld ?_ ?_
            rotate_left
            · rintro w' ⟨s0, s1, s2⟩
              go_simp
              first | done | with_reducible rfl | rfl
            rotate_left
            · simp only [Act.put, List.setIfInBounds_toArray, List.set_cons_zero, List.set_cons_succ, i64_w, i32_w]
              rfl
            refine pure_ (i := 7) (N := some 24) (v := ?_) (a' := ?_) #[true, true, true, true, true, true, true, true, false, true, true, true, true, false, false, false, false, false, false, false] rfl rfl (by kernel_rfl) (fun _ _ _ h => h) (Or.inl ⟨by rfl, ?_⟩) ?_ ?_
            rotate_left
            · intro w'
              go_simp
              first | done | with_reducible rfl | rfl
            rotate_left
            · simp only [Act.put, List.setIfInBounds_toArray, List.set_cons_zero, List.set_cons_succ, i64_w, i32_w]
              rfl
            refine take_ (i := 8) (N := some 25) (v := ?_) (a' := ?_) #[true, true, true, true, true, true, true, true, true, true, true, true, true, false, false, false, false, false, false, false] rfl rfl (by kernel_rfl) (fun _ _ _ h => h) (Or.inl ⟨by rfl, ?_⟩) hHeld ?_ ?_
            rotate_left
            · rintro w' ⟨s0, s1, s2⟩
              go_simp
              first | done | with_reducible rfl | rfl
            rotate_left
            · simp only [Act.put, List.setIfInBounds_toArray, List.set_cons_zero, List.set_cons_succ, i64_w, i32_w]
              rfl
            refine take_ (i := 13) (N := some 30) (v := ?_) (a' := ?_) #[true, true, true, true, true, true, true, true, true, true, true, true, true, true, false, false, false, false, false, false] rfl rfl (by kernel_rfl) (fun _ _ _ h => h) (Or.inl ⟨by rfl, ?_⟩) hHeld ?_ ?_
            rotate_left
            · rintro w' ⟨s0, s1, s2⟩
              go_simp
              first | done | with_reducible rfl | rfl
            rotate_left
            · simp only [Act.put, List.setIfInBounds_toArray, List.set_cons_zero, List.set_cons_succ, i64_w, i32_w]
              rfl
            refine pure_ (i := 14) (N := some 31) (v := ?_) (a' := ?_) #[true, true, true, true, true, true, true, true, true, true, true, true, true, true, true, false, false, false, false, false] rfl rfl (by kernel_rfl) (fun _ _ _ h => h) (Or.inl ⟨by rfl, ?_⟩) ?_ ?_
            rotate_left
            · intro w'
              go_simp
              first | done | with_reducible rfl | rfl
            rotate_left
            · simp only [Act.put, List.setIfInBounds_toArray, List.set_cons_zero, List.set_cons_succ, i64_w, i32_w]
              rfl
            refine pure_ (i := 15) (N := some 32) (v := ?_) (a' := ?_) #[true, true, true, true, true, true, true, true, true, true, true, true, true, true, true, true, false, false, false, false] rfl rfl (by kernel_rfl) (fun _ _ _ h => h) (Or.inl ⟨by rfl, ?_⟩) ?_ ?_
            rotate_left
            · intro w'
              go_simp
              first | done | with_reducible rfl | rfl
            rotate_left
            · simp only [Act.put, List.setIfInBounds_toArray, List.set_cons_zero, List.set_cons_succ, i64_w, i32_w]
              rfl
            refine pure_ (i := 16) (N := some 33) (v := ?_) (a' := ?_) #[true, true, true, true, true, true, true, true, true, true, true, true, true, true, true, true, true, false, false, false] rfl rfl (by kernel_rfl) (fun _ _ _ h => h) (Or.inl ⟨by rfl, ?_⟩) ?_ ?_
            rotate_left
            · intro w'
              go_simp
              first | done | with_reducible rfl | rfl
            rotate_left
            · simp only [Act.put, List.setIfInBounds_toArray, List.set_cons_zero, List.set_cons_succ, i64_w, i32_w]
              rfl
            refine pure_ (i := 17) (N := some 34) (v := ?_) (a' := ?_) #[true, true, true, true, true, true, true, true, true, true, true, true, true, true, true, true, true, true, false, false] rfl rfl (by kernel_rfl) (fun _ _ _ h => h) (Or.inl ⟨by rfl, ?_⟩) ?_ ?_
            rotate_left
            · intro w'
              go_simp
              first | done | with_reducible rfl | rfl
            rotate_left
            · simp only [Act.put, List.setIfInBounds_toArray, List.set_cons_zero, List.set_cons_succ, i64_w, i32_w]
              rfl
            refine pure_ (i := 18) (N := some 35) (v := ?_) (a' := ?_) #[true, true, true, true, true, true, true, true, true, true, true, true, true, true, true, true, true, true, true, false] rfl rfl (by kernel_rfl) (fun _ _ _ h => h) (Or.inl ⟨by rfl, ?_⟩) ?_ ?_
            rotate_left
            · intro w'
              go_simp
              first | done | with_reducible rfl | rfl
            rotate_left
            · simp only [Act.put, List.setIfInBounds_toArray, List.set_cons_zero, List.set_cons_succ, i64_w, i32_w]
              rfl
            refine last_ (i := 19) (N := none) #[true, true, true, true, true, true, true, true, true, true, true, true, true, true, true, true, true, true, true, true] rfl rfl (by kernel_rfl) (by decide) (fun K hK => ?_)
            refine skip_ (w1 := ?_) (by rfl) rfl ?_ ?_
            rotate_left
            · go_simp
              first | done | rfl
            refine hK.out _ _ ?_
            clear hK K
            refine done_ (by kernel_rfl) ?_
            have n0_ := Aside0.mk (show Kd.R k60 60 (wd.setCell ⟨g, ((rd_T60 t190 x12_1).f1).toNat, none⟩ (Value.int .u64 (inkV (rd x1000_1 ((rd_T60 t190 x12_1).f1)) (IntKind.u64.wrap ((rd_T60 t190 x12_1).f0))))) w.heap.size (fun k_ => k_ ≠ gb188 ∧ k_ ≠ gb189) (.slice (some ad193) t190.length co13) t190 from Kd.R_mono (Kd.R_far (p := ⟨g, ((rd_T60 t190 x12_1).f1).toNat, none⟩) (IsS26.apart HI0.out HO_10.out (by decide)) (fun _ hk => hk.2) (Value.int .u64 (inkV (rd x1000_1 ((rd_T60 t190 x12_1).f1)) (IntKind.u64.wrap ((rd_T60 t190 x12_1).f0))))) (fun _ hk => hk.1))
            have n1_ := Aside0.mk (blk_far BK188.out NB188_0.out (Value.int .u64 (inkV (rd x1000_1 ((rd_T60 t190 x12_1).f1)) (IntKind.u64.wrap ((rd_T60 t190 x12_1).f0)))) (p := ⟨g, ((rd_T60 t190 x12_1).f1).toNat, none⟩))
            have n2_ := Aside0.mk (blk_far BK189.out NB189_0.out (Value.int .u64 (inkV (rd x1000_1 ((rd_T60 t190 x12_1).f1)) (IntKind.u64.wrap ((rd_T60 t190 x12_1).f0)))) (p := ⟨g, ((rd_T60 t190 x12_1).f1).toNat, none⟩))
            have n3_ : Aside0 (IsS26 w0 (wd.setCell ⟨g, ((rd_T60 t190 x12_1).f1).toNat, none⟩ (Value.int .u64 (inkV (rd x1000_1 ((rd_T60 t190 x12_1).f1)) (IntKind.u64.wrap ((rd_T60 t190 x12_1).f0))))) g t195) := ⟨by
              have hs := blk_set HI0.out.1 (((rd_T60 t190 x12_1).f1)).toNat (Value.int .u64 (inkV (rd x1000_1 ((rd_T60 t190 x12_1).f1)) (IntKind.u64.wrap ((rd_T60 t190 x12_1).f0))))
              rw [plA_set x1000_1 C4.out _ (by have := C1.out; have := C2.out; omega), EI.out] at hs
              exact ⟨hs, HI0.out.2⟩⟩
            have n4_ := Aside0.mk (HK.out.set_ (((rd_T60 t190 x12_1).f1)).toNat (Value.int .u64 (inkV (rd x1000_1 ((rd_T60 t190 x12_1).f1)) (IntKind.u64.wrap ((rd_T60 t190 x12_1).f0)))))
            have n5_ := Aside0.mk (HB.out.setCell (p := ⟨g, ((rd_T60 t190 x12_1).f1).toNat, none⟩) HI0.out.2 (Value.int .u64 (inkV (rd x1000_1 ((rd_T60 t190 x12_1).f1)) (IntKind.u64.wrap ((rd_T60 t190 x12_1).f0)))))
            clear HO_10 BK188 BK189 HI0 HK HB
            have HO_10 := n0_
            have BK188 := n1_
            have BK189 := n2_
            have HI0 := n3_
            have HK := n4_
            have HB := n5_
            clear n0_ n1_ n2_ n3_ n4_ n5_
            clear hcell hHeld hfro
            unfold inkV at HO_10 BK188 BK189 HI0 HK HB
            generalize (wd.setCell ⟨g, ((rd_T60 t190 x12_1).f1).toNat, none⟩ (Value.int .u64 (Go.bits .or .u64 (rd x1000_1 ((rd_T60 t190 x12_1).f1)) (IntKind.u64.wrap (2 ^ min (IntKind.u64.wrap ((rd_T60 t190 x12_1).f0)).toNat 64))))) = wz at HO_10 BK188 BK189 HI0 HK HB ⊢
            go_wp2
            go_roundg k1
            case measure => have := HK1.out; omega
            case rel => exact ⟨(wrap64 (x12_1 + 1)), (t195), (by first | rfl | (simp; done) | (simp [*]; done)), H', ⟨by have := HK1.out; omega⟩, HO_10, BK188, BK189, HI0, HK, HB⟩
          · rw [if_neg c16] at H
            exact absurd H (by simp)
        · rw [if_neg c15] at H
          exact absurd H (by simp)
      · rw [if_neg c14] at H
        have c14b0 : decide (x12_1 < (t190.length : Int)) = false := decide_eq_false c14
        clear c14
        obtain rfl := Option.some.inj H
        go_wp2
        first | go_end0 | ((try simp only [Exit.inBlock, Exit.then]); refine bodyPost_ret (results_none rfl _ _ _) rfl ?_)
        exact ⟨by first | rfl | (simp [errW_none, errW_some] <;> rfl) | (simp [*, errW_none, errW_some] <;> rfl), by repeat (first | (with_reducible first | exact HI0.out | apply IsS26.alloc | apply IsS26.drewN | apply IsS26.drew | apply IsS26.set_0 | refine IsS26.far ?_ NB0_188.out _ | refine IsS26.far ?_ NB0_189.out _) | exact HI0.out | (simp only [Int.add_zero])), by repeat (first | (with_reducible first | exact HB.out | apply below_alloc | apply pw_below_drewN | apply below_drew1 | refine below_set ?_ (IsS26.ge HI0.out) | refine below_set ?_ GE188.out | refine below_set ?_ GE189.out) | exact HB.out), by repeat (first | (with_reducible first | exact HK.out | apply KeepBut.set_ | apply keep_drewN | apply keep_drew | apply keep_alloc | refine keep_far ?_ GW188.out _ | refine keep_far ?_ GW189.out _) | exact HK.out)⟩

end Go.Proofs.Ytkgeppbjfkhjcaa.XFnExactDrawStrokes
