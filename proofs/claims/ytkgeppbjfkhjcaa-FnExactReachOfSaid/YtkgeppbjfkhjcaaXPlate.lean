/- A plate: an array of 64 numbers, told by a list of them; rows of plates; own words beside the printed ones. No condition. -/
import Derived.Test.YtkgeppbjfkhjcaaWWords
import Derived.Test.YtkgeppbjfkhjcaaWLast
import Derived.Test.YtkgeppbjfkhjcaaWMore
import Derived.Test.YtkgeppbjfkhjcaaWApart
import Derived.Deep.WholeRow
import Derived.Laws.CopyOwn
import Derived.ChangeKeysEq
import Derived.Laws.StructEq
import Derived.Laws.Tables
import Derived.Great.BuildSlice
namespace Go.Proofs.YtkgeppbjfkhjcaaW.PrintMore
open Go.RowKit Go.Proofs.YtkgeppbjfkhjcaaW.PrintWords Go.Proofs.YtkgeppbjfkhjcaaW.PrintLast
set_option linter.unusedVariables false
set_option linter.unusedSimpArgs false
/-! ### a plate: an array of 64 rows of bits, told by a list -/
def plA (x : List Int) : Array Value := ((List.range 64).map fun j : Nat => Value.int .u64 (rd x (j : Int))).toArray
@[reducible] def pl0_ : List Int := List.replicate 64 0
theorem plA_size (x : List Int) : (plA x).size = 64 := by simp [plA]
theorem plA_get (x : List Int) (j : Nat) (h : j < 64) : (plA x)[j]? = some (.int .u64 (rd x (j : Int))) := by simp [plA, h]
theorem plA_set (x : List Int) (hx : x.length = 64) (j : Nat) (hj : j < 64) (v : Int) : (plA x).setIfInBounds j (.int .u64 v) = plA (x.set j v) := by
  apply Array.ext_getElem?
  intro i
  rw [Array.getElem?_setIfInBounds]
  by_cases c : j = i
  · subst c
    rw [if_pos rfl, if_pos (by rw [plA_size]; exact hj), plA_get _ _ hj]
    simp [rd, hx, hj]
  · rw [if_neg c]
    by_cases hi : i < 64
    · rw [plA_get _ _ hi, plA_get _ _ hi]
      simp [rd, c]
    · rw [Array.getElem?_eq_none (by rw [plA_size]; omega), Array.getElem?_eq_none (by rw [plA_size]; omega)]
theorem plA_one (x : List Int) : (plA x).all (·.oneCell') = true := by
  rw [Array.all_eq_true]
  intro i hi
  have h := plA_get x i (by rw [plA_size] at hi; exact hi)
  rw [Array.getElem?_eq_getElem hi] at h
  injection h with h
  rw [h]
  rfl
section
variable {P : Program} {ops : Array Oper} {rest : List Oper} {o : Oper} {a : Act} {Q : Exit → Act → World → Prop} {W : World}
theorem pl_store (hgd : o.guard = none) {T : TypeId} {p : Tmp} {v : Operand} (ho : o.op = .store T (.tmp p) v) (hN : o.dst = none) {g : Nat} {cs : Array Value} {x : List Int} (hp : a.eval (.tmp p) = .pointer (some ⟨g, 0, none⟩)) (hv : a.eval v = .agg (plA x))
    (hb : W.heap[g]? = some (.cells cs T (0, 0))) (hx : cs.size = 64) (hi : (P.info? T).map (·.size) = some 64) (h : ∀ w', w' = W.setRow g (plA x) → wpList P ops Q rest a w') : wpList P ops Q (o :: rest) a W := by
  refine store_event hgd ho hN ?_ h
  have hr := run_storeVar_row (P := P) W g T T cs (plA x) hb (by rw [plA_size]; exact hi) (by rw [plA_size]; exact hx) (plA_one x)
  simp only [execOp, ho, hp, hv, Instr.storeAt, Instr.sureAddr, Sem.run_bind, Sem.run_pure, Result.andThen_ok, hr]
theorem pl_load (hgd : o.guard = none) {T e : TypeId} {p : Tmp} (ho : o.op = .load T (.tmp p)) {g : Nat} {x : List Int} (hp : a.eval (.tmp p) = .pointer (some ⟨g, 0, none⟩))
    (hb : W.heap[g]? = some (.cells (plA x) T (0, 0))) (hu : P.underlying T = some (.array 64 e)) (hi : (P.info? T).map (·.size) = some 64) (h : wpList P ops Q rest (a.put o.dst (.agg (plA x))) W) : wpList P ops Q (o :: rest) a W := by
  refine Kd.event_run hgd ?_ h
  have hr := run_loadVar_row (P := P) W g T T (plA x) (0, 0) _ hb hu rfl (by rw [plA_size]; exact hi)
  simp only [execOp, ho, hp, Instr.loadAt, Instr.sureAddr, Sem.run_bind, Sem.run_pure, Result.andThen_ok, hr]
end
theorem pl_cells {P : Program} {W : World} {g : Nat} {x : List Int} {T : TypeId} (hb : W.heap[g]? = some (.cells (plA x) T (0, 0))) : (loadCellsFrom ⟨g, 0, none⟩ 0 64 #[]).run P W = .ok (plA x) W := by
  have := run_loadCells_list (P := P) W ⟨g, 0, none⟩ (plA x).toList (fun j v hv => by
    have hadd : (⟨g, 0, none⟩ : Addr).add j = ⟨g, j, none⟩ := by unfold Addr.add; split <;> simp_all
    rw [hadd, cell_of_row W g j (plA x) T (0, 0) hb]
    simpa using hv)
  simpa [loadCells, plA_size] using this
theorem pl_var {P : Program} {W : World} {g : Nat} {x : List Int} {T e : TypeId} (hb : W.heap[g]? = some (.cells (plA x) T (0, 0))) (hu : P.underlying T = some (.array 64 e)) (hi : (P.info? T).map (·.size) = some 64) : (loadVar T ⟨g, 0, none⟩).run P W = .ok (.agg (plA x)) W :=
  run_loadVar_row (P := P) W g T T (plA x) (0, 0) _ hb hu rfl (by rw [plA_size]; exact hi)
theorem blk_putP {w : World} {g : Nat} {t : TypeId} {cs : Array Value} (h : w.heap[g]? = some (.cells cs t (0, 0))) (x : List Int) : (w.setRow g (plA x)).heap[g]? = some (.cells (plA x) t (0, 0)) := setRow_heap w g cs (plA x) t (0, 0) h
theorem blk_farP {w : World} {g k : Nat} {o : Obj} (h : w.heap[k]? = some o) (hne : k ≠ g) (cs : Array Value) : (w.setRow g cs).heap[k]? = some o := (setRow_other w g k cs hne).trans h
theorem below_setP {w W : World} {g : Nat} {cs : Array Value} (h : Below w.heap.size w W) (hg : w.heap.size ≤ g) : Below w.heap.size w (W.setRow g cs) := below_setRow h hg cs
theorem S_farP {α : Type} {d : Kd α} {e base : Nat} {ok : Nat → Prop} {w : World} {v : Value} {xs : List α} (h : Kd.S d e w base ok v xs) {g : Nat} (hok : ∀ k, ok k → k ≠ g) (cs : Array Value) : Kd.S d e (w.setRow g cs) base ok v xs := Kd.S_step h (fun k ho _ => setRow_other w g k cs (hok k ho))

/-- The 64 cells at an address. -/
def plAt (W : World) (p : Addr) (x : List Int) : Prop := p.spot = none ∧ ∀ j, j < 64 → W.cell? ⟨p.block, p.off + j, none⟩ = some (.int .u64 (rd x (j : Int)))
theorem plAt.lt {W : World} {p : Addr} {x : List Int} (h : plAt W p x) : p.block < W.heap.size := World.block_lt_of_cell? W ⟨p.block, p.off + 0, none⟩ (h.2 0 (by decide))
theorem plAt.below {w W W1 : World} {p : Addr} {x : List Int} {B : Nat} (hb : Below B W W1) (h : plAt W p x) (hp : p.block < B) : plAt W1 p x := ⟨h.1, fun j hj => (hb.cell (p := ⟨p.block, p.off + j, none⟩) hp).trans (h.2 j hj)⟩
theorem plAt.cell {W : World} {p : Addr} {x : List Int} (h : plAt W p x) (i : Int) (h0 : 0 ≤ i) (h1 : i < 64) : W.cell? ⟨p.block, p.off + i.toNat, none⟩ = some (.int .u64 (rd x i)) := by
  have := h.2 i.toNat (by omega)
  rw [Int.toNat_of_nonneg h0] at this
  exact this
theorem plAt.of_blk {W : World} {g : Nat} {x : List Int} {T : TypeId} (hb : W.heap[g]? = some (.cells (plA x) T (0, 0))) : plAt W ⟨g, 0, none⟩ x := ⟨rfl, fun j hj => by
  rw [show (⟨g, 0 + j, none⟩ : Addr) = ⟨g, j, none⟩ by rw [Nat.zero_add]]
  exact (blk_cell hb j).trans (plA_get x j hj)⟩
theorem plAt.run {P : Program} {W : World} {p : Addr} {x : List Int} {T e : TypeId} (h : plAt W p x) (hu : P.underlying T = some (.array 64 e)) (hi : (P.info? T).map (·.size) = some 64) : (loadVar T p).run P W = .ok (.agg (plA x)) W := by
  obtain ⟨b, o, s⟩ := p
  obtain rfl : s = none := h.1
  have hr := run_loadCells_list (P := P) W ⟨b, o, none⟩ (plA x).toList (fun j v hv => by
    have hj : j < 64 := by
      by_cases c : j < 64
      · exact c
      · rw [List.getElem?_eq_none (by simp [plA_size]; omega)] at hv; cases hv
    have hadd : (⟨b, o, none⟩ : Addr).add j = ⟨b, o + j, none⟩ := by unfold Addr.add; split <;> simp_all
    rw [hadd, h.2 j hj, ← plA_get x j hj]
    simpa using hv)
  cases hq : P.info? T with
  | none => simp [hq] at hi
  | some i =>
    have hs : i.size = 64 := by simpa [hq] using hi
    have hl : (plA x).toList.length = 64 := by simp [plA_size]
    rw [hl] at hr
    simp [loadVar, isAgg, run_underlying hu, sizeOf, typeInfo, hq, hs, hr, Result.andThen]
theorem plAt.celladd {W : World} {p : Addr} {x : List Int} (h : plAt W p x) (i : Int) (h0 : 0 ≤ i) (h1 : i < 64) : W.cell? (p.add i.toNat) = some (.int .u64 (rd x i)) := by
  have hc := h.cell i h0 h1
  have hs := h.1
  unfold Addr.add
  split
  · rename_i hz
    obtain ⟨b, o, s⟩ := p
    obtain rfl : s = none := hs
    rw [hz] at hc
    exact hc
  · exact hc
/-- The kind of a plate: its 64 cells. -/
def kPlN : Nat → Nat → Kd (List Int)
  | 0, o => Kd.iso (Kd.int .u64) (fun x => rd x (o : Int))
  | n + 1, o => Kd.iso (Kd.pair (Kd.int .u64) (kPlN n (o + 1))) (fun x => (rd x (o : Int), x))
def kPl : Kd (List Int) := kPlN 63 0
def plR (n o : Nat) (x : List Int) : List Value := (List.range n).map fun j : Nat => Value.int .u64 (rd x ((o + j : Nat) : Int))
theorem plR_s (n o : Nat) (x : List Int) : plR (n + 1) o x = Value.int .u64 (rd x (o : Int)) :: plR n (o + 1) x := by
  unfold plR
  rw [List.range_succ_eq_map, List.map_cons, List.map_map, Nat.add_zero]
  congr 1
  apply List.map_congr_left
  intro j _
  show Value.int .u64 (rd x ((o + (j + 1) : Nat) : Int)) = Value.int .u64 (rd x ((o + 1 + j : Nat) : Int))
  rw [show o + (j + 1) = o + 1 + j by omega]
theorem plR_64 (x : List Int) : plR 64 0 x = (plA x).toList := by simp [plR, plA]
theorem kPlN_open {w : World} (n : Nat) : ∀ (o : Nat) {x : List Int} {cs : List Value}, (kPlN n o).K w x cs → cs = plR (n + 1) o x := by
  induction n with
  | zero => intro o x cs h; exact h
  | succ n ih =>
    intro o x cs h
    obtain ⟨a, b, rfl, rfl, h2⟩ := h
    rw [plR_s, ← ih (o + 1) h2]
    rfl
theorem kPlN_openM {w : World} {base : Nat} {ok : Nat → Prop} (n : Nat) : ∀ (o : Nat) {x : List Int} {cs : List Value}, (kPlN n o).M w base ok x cs → cs = plR (n + 1) o x := by
  induction n with
  | zero => intro o x cs h; exact h
  | succ n ih =>
    intro o x cs h
    obtain ⟨a, b, rfl, rfl, h2⟩ := h
    rw [plR_s, ← ih (o + 1) h2]
    rfl
theorem kPlN_mk (w : World) (n : Nat) : ∀ (o : Nat) (x : List Int), (kPlN n o).K w x (plR (n + 1) o x) := by
  induction n with
  | zero => intro o x; exact rfl
  | succ n ih => intro o x; rw [plR_s]; exact ⟨[.int .u64 (rd x (o : Int))], _, rfl, rfl, ih (o + 1) x⟩
theorem kPlN_mkM (w : World) (base : Nat) (ok : Nat → Prop) (n : Nat) : ∀ (o : Nat) (x : List Int), (kPlN n o).M w base ok x (plR (n + 1) o x) := by
  induction n with
  | zero => intro o x; exact rfl
  | succ n ih => intro o x; rw [plR_s]; exact ⟨[.int .u64 (rd x (o : Int))], _, rfl, rfl, ih (o + 1) x⟩
theorem kPlN_sz (n : Nat) : ∀ o, (kPlN n o).sz = n + 1 := by
  induction n with
  | zero => intro o; rfl
  | succ n ih => intro o; show 1 + (kPlN n (o + 1)).sz = n + 1 + 1; rw [ih]; omega
theorem kPlN_E (n : Nat) : ∀ o, (kPlN n o).E = [] := by
  induction n with
  | zero => intro o; rfl
  | succ n ih => intro o; show [] ++ (kPlN n (o + 1)).E = []; rw [ih]; rfl
theorem kPl_open {w : World} {x : List Int} {cs : List Value} (h : kPl.K w x cs) : cs = (plA x).toList := (kPlN_open 63 0 h).trans (plR_64 x)
theorem kPl_openM {w : World} {base : Nat} {ok : Nat → Prop} {x : List Int} {cs : List Value} (h : kPl.M w base ok x cs) : cs = (plA x).toList := (kPlN_openM 63 0 h).trans (plR_64 x)
theorem kPl_mk (w : World) (x : List Int) : kPl.K w x (plA x).toList := plR_64 x ▸ kPlN_mk w 63 0 x
theorem kPl_mkM (w : World) (base : Nat) (ok : Nat → Prop) (x : List Int) : kPl.M w base ok x (plA x).toList := plR_64 x ▸ kPlN_mkM w base ok 63 0 x
theorem kPl_sz : kPl.sz = 64 := kPlN_sz 63 0
theorem kPl_E : kPl.E = [] := kPlN_E 63 0
theorem cell_spot {w : World} {a : Addr} {u : Value} (h : w.cell? a = some u) : a.spot = none := by
  obtain ⟨b, o, s⟩ := a
  cases s with
  | none => rfl
  | some z =>
    exfalso
    unfold World.cell? at h
    split at h <;> simp_all
theorem plate_at {α : Type} {d : Kd α} (f : α → List Int) (z : α) (hz : d.sz = 64) (ho : ∀ (w : World) (x : α) (cs : List Value), d.K w x cs → cs = (plA (f x)).toList) {w : World} {A : Option Addr} {n : Nat} {xs : List α} (h : Kd.C d w A n xs) (i : Int) (h0 : 0 ≤ i) (h1 : i < n) : ∃ ad, A = some ad ∧ plAt w (ad.add (i.toNat * 64)) (f (xs.getD i.toNat z)) := by
  obtain ⟨ad, c, e, h2, hK, hc0⟩ := Kd.C_get h z i h0 h1
  rw [hz] at hc0
  have hk := ho _ _ _ hK
  subst hk
  have hc : ∀ j, j < 64 → w.cell? (ad.add (i.toNat * 64 + j)) = some (.int .u64 (rd (f (xs.getD i.toNat z)) (j : Int))) := fun j hj => hc0 j _ (by rw [Array.getElem?_toList]; exact plA_get _ j hj)
  by_cases z : i.toNat * 64 = 0
  · have h3 := hc 0 (by decide)
    rw [z] at h3 hc ⊢
    have hs : ad.spot = none := cell_spot (show w.cell? ad = some _ from h3)
    obtain ⟨b, o, s⟩ := ad
    obtain rfl : s = none := hs
    refine ⟨_, e, rfl, fun j hj => ?_⟩
    have h4 := hc j hj
    have ha : (⟨b, o, none⟩ : Addr).add (0 + j) = ⟨b, o + j, none⟩ := by unfold Addr.add; split <;> simp_all
    rw [ha] at h4
    exact h4
  · have ha : ∀ m : Nat, m ≠ 0 → ad.add m = ⟨ad.block, ad.off + m, none⟩ := fun m hm => by unfold Addr.add; rw [if_neg hm]
    refine ⟨_, e, by rw [ha _ z], fun j hj => ?_⟩
    have h4 := hc j hj
    rw [ha _ (by omega)] at h4
    rw [ha _ z]
    show w.cell? ⟨ad.block, ad.off + i.toNat * 64 + j, none⟩ = _
    rw [Nat.add_assoc]
    exact h4
theorem pl_index {P : Program} {W : World} {T e : TypeId} {k : IntKind} {x : List Int} {i : Int} (hu : P.underlying T = some (.array 64 e)) (he : P.underlying e = some (.int .u64)) (hs : (P.info? e).map (·.size) = some 1) (h0 : 0 ≤ i) (h1 : i < 64) : (Instr.index T (.agg (plA x)) (.int k i)).run P W = .ok (.int .u64 (rd x i)) W := by
  have hp : (plA x)[i.toNat]? = some (.int .u64 (rd x i)) := by rw [plA_get _ _ (by omega), Int.toNat_of_nonneg h0]
  cases hq : P.info? e with
  | none => simp [hq] at hs
  | some z =>
    have hz : z.size = 1 := by simpa [hq] using hs
    simp [Instr.index, asIntOf, run_underlying hu, run_underlying he, sizeOf, typeInfo, hq, hz, part, isAgg, h0, h1, hp, Result.andThen]
theorem arr_index {P : Program} {W : World} {T e : TypeId} {k kk : IntKind} {n : Nat} {cs : Array Value} {v : Value} {i : Int} (hu : P.underlying T = some (.array n e)) (he : P.underlying e = some (.int kk)) (hs : (P.info? e).map (·.size) = some 1) (h0 : 0 ≤ i) (h1 : i < n) (hp : cs[i.toNat]? = some v) : (Instr.index T (.agg cs) (.int k i)).run P W = .ok v W := by
  cases hq : P.info? e with
  | none => simp [hq] at hs
  | some z =>
    have hz : z.size = 1 := by simpa [hq] using hs
    simp [Instr.index, asIntOf, run_underlying hu, run_underlying he, sizeOf, typeInfo, hq, hz, part, isAgg, h0, h1, hp, Result.andThen]
section
variable {P : Program} {ops : Array Oper} {rest : List Oper} {o : Oper} {a : Act} {Q : Exit → Act → World → Prop} {W : World}
theorem pl_loadAt (hgd : o.guard = none) {T e : TypeId} {p : Tmp} (ho : o.op = .load T (.tmp p)) {ad : Addr} {x : List Int} (hp : a.eval (.tmp p) = .pointer (some ad))
    (hb : plAt W ad x) (hu : P.underlying T = some (.array 64 e)) (hi : (P.info? T).map (·.size) = some 64) (h : wpList P ops Q rest (a.put o.dst (.agg (plA x))) W) : wpList P ops Q (o :: rest) a W := by
  refine Kd.event_run hgd ?_ h
  have hr := plAt.run (P := P) hb hu hi
  simp only [execOp, ho, hp, Instr.loadAt, Instr.sureAddr, Sem.run_bind, Sem.run_pure, Result.andThen_ok, hr]
theorem info_pl {P : Program} {T : TypeId} {z : Value} {b : Nat} (h : (P.info? T).map (fun i => (i.zero, i.size, i.bytes)) = some (some z, 64, b)) : (P.info? T).map (·.size) = some 64 := by
  cases hq : P.info? T with
  | none => rw [hq] at h; cases h
  | some i =>
    rw [hq] at h
    simp only [Option.map_some, Option.some.injEq, Prod.mk.injEq] at h ⊢
    exact h.2.1
end
section
variable {P : Program} {ops : Array Oper} {rest : List Oper} {o : Oper} {a : Act} {Q : Exit → Act → World → Prop} {W : World} {α : Type}
theorem pl_rowStore (d : Kd α) (f : α → List Int) (x' : α) (hz : d.sz = 64) (hm : ∀ w base ok, d.M w base ok x' (plA (f x')).toList) {w0 : World} {base : Nat} (hgd : o.guard = none) (hN : o.dst = none) {t e : TypeId} {p : Tmp} {v : Operand} (ho : o.op = .store t (.tmp p) v)
    {g n cap o' : Nat} (i : Int) {xs : List α} {c : List Value} (hp : a.eval (.tmp p) = .pointer (some ⟨g, o', none⟩)) (hoff : o' = i.toNat * 64) (hv : a.eval v = .agg (plA (f x'))) (hi : (P.info? t).map (·.size) = some 64)
    (HO : d.R e W base (fun _ => True) (.slice (some ⟨g, 0, none⟩) n cap) xs) (h0 : 0 ≤ i) (h1 : i < n) (hcl : c.length = d.sz) (hcc : ∀ j u, c[j]? = some u → W.cell? ⟨g, i.toNat * d.sz + j, none⟩ = some u) (HB : Below base w0 W)
    (h : ∀ w1, d.R e w1 base (fun _ => True) (.slice (some ⟨g, 0, none⟩) n cap) (xs.set i.toNat x') → Below base w0 w1 → wpList P ops Q rest a w1) : wpList P ops Q (o :: rest) a W := by
  have hl : (plA (f x')).toList.length = 64 := (Array.length_toList).trans (plA_size _)
  refine Kd.R_store d base hN hgd t (.tmp p) v ho e i 0 xs x' (.agg (plA (f x'))) (plA (f x')).toList c (fun _ => True) (fun _ => False) hp ?_ hv rfl (hi.trans (congrArg some hl.symm)) (fun q hq => (Array.all_eq_true'.mp (plA_one _)) q (Array.mem_toList_iff.mp hq)) HO h0 h1 hcl hcc ?_ ?_ (fun _ h_ => h_.elim) HB (fun w1 hr hb _ => h w1 hr hb)
  · rw [hz, hoff]; rfl
  · rw [hl, hz]; decide
  · rw [List.take_zero, List.nil_append, List.drop_eq_nil_of_le (by rw [hcl, hz, hl]; decide), List.append_nil]
    exact hm _ _ _
end
section
variable {P : Program} {o : Oper} {a : Act} {W : World}
theorem pl_loadRun {T e : TypeId} {p : Tmp} {ad : Addr} {x : List Int} (ho : o.op = .load T (.tmp p)) (hp : a.eval (.tmp p) = .pointer (some ad)) (hb : plAt W ad x) (hu : P.underlying T = some (.array 64 e)) (hi : (P.info? T).map (·.size) = some 64) :
    (execOp a.eval o).run P W = .ok (.value (.agg (plA x))) W := by
  have hr := plAt.run (P := P) hb hu hi
  simp only [execOp, ho, hp, Instr.loadAt, Instr.sureAddr, Sem.run_bind, Sem.run_pure, Result.andThen_ok, hr]
/-- All 64 numbers are zero. -/
def plq (x : List Int) : Bool := (List.range 64).all fun j : Nat => rd x (j : Int) == rd pl0_ (j : Int)
theorem pl_items {e : TypeId} (he : P.underlying e = some (.int .u64)) (hs : (P.info? e).map (·.size) = some 1) (d : Nat) (x y : List Int) : ∀ is : List Nat, (∀ i ∈ is, i < 64) →
    (Op.eqItems (d + 1) e (P.cellsOf e) (plA x) (plA y) is).run P W = .ok (is.all fun j : Nat => rd x (j : Int) == rd y (j : Int)) W := by
  have hc : P.cellsOf e = 1 := by unfold Program.cellsOf; rw [hs]; rfl
  intro is
  induction is with
  | nil => intro _; rfl
  | cons i is ih =>
    intro h
    have hi := h i (by simp)
    have p : ∀ z : List Int, (part e (plA z) (i * 1)).run P W = .ok (.int .u64 (rd z (i : Int))) W := by
      intro z
      cases hq : P.info? e with
      | none => simp [hq] at hs
      | some q =>
        have hz : q.size = 1 := by simpa [hq] using hs
        simp [part, run_underlying he, sizeOf, typeInfo, hq, hz, isAgg, plA_get z i hi, Result.andThen]
    rw [hc] at ih ⊢
    simp only [Op.eqItems, Sem.run_bind, p, Result.andThen_ok, run_equalIn_int W d e .u64 .u64 _ _ he]
    by_cases c : (rd x (i : Int) == rd y (i : Int)) = true
    · rw [c]
      simp only [Bool.not_true, Bool.false_eq_true, if_false, List.all_cons, c, Bool.true_and]
      exact ih (fun j hj => h j (by simp [hj]))
    · rw [Bool.eq_false_iff.mpr c]
      simp [Bool.eq_false_iff.mpr c]
theorem pl_equal {T e : TypeId} (hu : P.underlying T = some (.array 64 e)) (he : P.underlying e = some (.int .u64)) (hs : (P.info? e).map (·.size) = some 1) (x : List Int) : (Op.equalIn 10000 T (.agg (plA x)) (.agg (plA pl0_))).run P W = .ok (plq x) W := by
  obtain ⟨i, hi⟩ : ∃ i, P.info? e = some i := by
    cases hq : P.info? e with
    | none => simp [hq] at hs
    | some q => exact ⟨q, rfl⟩
  rw [run_equalIn_array W 9999 (plA x) (plA pl0_) hu hi]
  exact pl_items he hs 9998 x pl0_ (List.range 64) (fun j hj => List.mem_range.mp hj)
theorem pl_neqRun {T T' e : TypeId} {p q : Operand} {x : List Int} {b : Bool} (ho : o.op = .binOp .neq T p q T') (hp : a.eval p = .agg (plA x)) (hq : a.eval q = .agg (plA pl0_)) (hu : P.underlying T = some (.array 64 e)) (he : P.underlying e = some (.int .u64)) (hs : (P.info? e).map (·.size) = some 1) (hm : P.eqGuardType P.depth T = false) (hb : (!plq x) = b) :
    (execOp a.eval o).run P W = .ok (.value (.bool b)) W := by
  simp only [execOp, ho, hp, hq, Sem.run_bind, Sem.run_pure, Result.andThen_ok, run_eqGuard_agg W .neq T p q _ _ hm, run_neq_struct, pl_equal hu he hs, hb]
theorem pl_eqlRun {T T' e : TypeId} {p q : Operand} {x : List Int} {b : Bool} (ho : o.op = .binOp .eql T p q T') (hp : a.eval p = .agg (plA x)) (hq : a.eval q = .agg (plA pl0_)) (hu : P.underlying T = some (.array 64 e)) (he : P.underlying e = some (.int .u64)) (hs : (P.info? e).map (·.size) = some 1) (hm : P.eqGuardType P.depth T = false) (hb : plq x = b) :
    (execOp a.eval o).run P W = .ok (.value (.bool b)) W := by
  simp only [execOp, ho, hp, hq, Sem.run_bind, Sem.run_pure, Result.andThen_ok, run_eqGuard_agg W .eql T p q _ _ hm, run_eql_struct, pl_equal hu he hs, hb]
theorem pl_loadRunX {T e : TypeId} {ad : Addr} {x : List Int} (h : ∃ p : Tmp, o.op = .load T (.tmp p) ∧ a.eval (.tmp p) = .pointer (some ad)) (hb : plAt W ad x) (hu : P.underlying T = some (.array 64 e)) (hi : (P.info? T).map (·.size) = some 64) :
    (execOp a.eval o).run P W = .ok (.value (.agg (plA x))) W := by
  obtain ⟨p, ho, hp⟩ := h
  exact pl_loadRun ho hp hb hu hi
theorem pl_neqRunX {T e : TypeId} {x : List Int} {b : Bool} (h : ∃ (p q : Operand) (T' : TypeId), o.op = .binOp .neq T p q T' ∧ a.eval p = .agg (plA x) ∧ a.eval q = .agg (plA pl0_)) (hu : P.underlying T = some (.array 64 e)) (he : P.underlying e = some (.int .u64)) (hs : (P.info? e).map (·.size) = some 1) (hm : P.eqGuardType P.depth T = false) (hb : (!plq x) = b) :
    (execOp a.eval o).run P W = .ok (.value (.bool b)) W := by
  obtain ⟨p, q, T', ho, hp, hq⟩ := h
  exact pl_neqRun ho hp hq hu he hs hm hb
theorem pl_eqlRunX {T e : TypeId} {x : List Int} {b : Bool} (h : ∃ (p q : Operand) (T' : TypeId), o.op = .binOp .eql T p q T' ∧ a.eval p = .agg (plA x) ∧ a.eval q = .agg (plA pl0_)) (hu : P.underlying T = some (.array 64 e)) (he : P.underlying e = some (.int .u64)) (hs : (P.info? e).map (·.size) = some 1) (hm : P.eqGuardType P.depth T = false) (hb : plq x = b) :
    (execOp a.eval o).run P W = .ok (.value (.bool b)) W := by
  obtain ⟨p, q, T', ho, hp, hq⟩ := h
  exact pl_eqlRun ho hp hq hu he hs hm hb
theorem pl_zeroRun {T : TypeId} (ho : o.op = .build T #[]) (h : P.built T [] = some (plA pl0_)) : (execOp a.eval o).run P W = .ok (.value (.agg (plA pl0_))) W := by
  have hr := run_build W T #[] (plA pl0_) h
  simp only [execOp, ho, Sem.run_bind, Sem.run_pure, Result.andThen_ok, List.map_toArray, List.map_nil, Array.map_empty, hr]
end
section
variable {α : Type} {W : World}
theorem plA_seg (x : List Int) (hx : x.length = 64) (j : Nat) (hj : j < 64) (v : Int) : (plA x).toList.take j ++ [Value.int .u64 v] ++ (plA x).toList.drop (j + [Value.int .u64 v].length) = (plA (x.set j v)).toList := by
  rw [← plA_set x hx j hj v, Array.toList_setIfInBounds]
  have hl : j < (plA x).toList.length := by rw [Array.length_toList, plA_size]; exact hj
  rw [List.set_eq_take_append_cons_drop, if_pos hl, List.append_assoc]
  rfl
/-- A cell of a grid in an own row is set. -/
theorem pl_rowSet (d : Kd α) (f : α → List Int) (z x' : α) (hz : d.sz = 64) (ho : ∀ w base ok x cs, d.M w base ok x cs → cs = (plA (f x)).toList) (hm : ∀ w base ok, d.M w base ok x' (plA (f x')).toList) {base : Nat} {ok : Nat → Prop} {e : TypeId} {g n cap : Nat} {xs : List α} (i j : Int)
    (HO : d.R e W base ok (.slice (some ⟨g, 0, none⟩) n cap) xs) (h0 : 0 ≤ i) (h1 : i < n) (j0 : 0 ≤ j) (j1 : j < 64) (v : Int) (hl : (f (xs.getD i.toNat z)).length = 64) (hx' : f x' = (f (xs.getD i.toNat z)).set j.toNat v) :
    W.cell? ⟨g, i.toNat * 64 + j.toNat, none⟩ = some (.int .u64 (rd (f (xs.getD i.toNat z)) j)) ∧ W.frozen? ⟨g, i.toNat * 64 + j.toNat, none⟩ = false ∧
      d.R e (W.setCell ⟨g, i.toNat * 64 + j.toNat, none⟩ (.int .u64 v)) base ok (.slice (some ⟨g, 0, none⟩) n cap) (xs.set i.toNat x') ∧ W.grownBy (W.setCell ⟨g, i.toNat * 64 + j.toNat, none⟩ (.int .u64 v)) (some g) := by
  obtain ⟨c, hcl, hM, hcc, hfr⟩ := Kd.R_elem HO z i h0 h1
  obtain rfl := ho _ _ _ _ _ hM
  rw [hz] at hcc hfr
  have hs := Kd.R_seg (okp := fun _ => False) HO i h0 h1 (c := (plA (f (xs.getD i.toNat z))).toList) (seg := [Value.int .u64 v]) (j := j.toNat) hcl (by rw [hz]; exact hcc) (by rw [hz]; show j.toNat + 1 ≤ 64; omega) (x' := x') (by rw [plA_seg _ hl _ (by omega), ← hx']; exact hm _ _ _) (fun _ h_ => h_.elim)
  rw [hz] at hs
  refine ⟨?_, hfr _, hs.1, hs.2⟩
  have := hcc j.toNat (.int .u64 (rd (f (xs.getD i.toNat z)) j)) (by rw [Array.getElem?_toList, plA_get _ _ (by omega), Int.toNat_of_nonneg j0])
  exact this
end
theorem pl_fill (x : List Int) (cs : Array Value) (h : cs.size = 64) : Instr.fill (fun i => some (i * 64, 64)) cs [(0, .agg (plA x))] = some (plA x).toList.toArray := by
  have hw := Great.fill_whole (s := 64) (by decide) [Value.agg (plA x)] cs (fun v hv => by rw [List.mem_singleton.mp hv]; exact plA_size x) (by rw [h]; rfl)
  have e : ([Value.agg (plA x)].flatMap fun v => v.cells.toList) = (plA x).toList := by
    rw [List.flatMap_cons, List.flatMap_nil, List.append_nil]
    rfl
  rw [e] at hw
  exact hw
section
variable {P : Program} {o : Oper} {a : Act} {W : World}
theorem pl_litRun {T e : TypeId} {x : List Int} (h : ∃ p : Tmp, o.op = .buildSlice T 1 #[(0, .tmp p)] ∧ a.eval (.tmp p) = .agg (plA x)) (hu : P.underlying T = some (.slice e)) (hi : (P.info? e).map (fun i => (i.zero, i.size, i.bytes)) = some (some (.agg (plA pl0_)), 64, 512)) :
    (execOp a.eval o).run P W = .ok (.value (.slice (some ⟨W.heap.size, 0, none⟩) 1 1)) (W.alloc (.cells (plA x).toList.toArray e)) := by
  obtain ⟨p, ho, hp⟩ := h
  obtain ⟨ie, hie, hh⟩ := Option.map_eq_some_iff.1 hi
  simp only [Prod.mk.injEq] at hh
  obtain ⟨h0, h1, h2⟩ := hh
  have hr := run_buildSlice (P := P) W T e 1 #[(0, .agg (plA x))] (plA x).toList.toArray ie (.agg (plA pl0_)) hu hie h0 (by rw [h1]; decide) (by rw [h1]; decide) (by rw [h1]; exact pl_fill x _ (by simp))
  simp only [execOp, ho, hp, Sem.run_bind, Sem.run_pure, Result.andThen_ok, List.map_toArray, List.map_cons, List.map_nil, hr]
end
theorem pl_rowGet {α : Type} {W : World} (d : Kd α) (f : α → List Int) (z : α) (hz : d.sz = 64) (ho : ∀ w base ok x cs, d.M w base ok x cs → cs = (plA (f x)).toList) {base : Nat} {ok : Nat → Prop} {e : TypeId} {g n cap : Nat} {xs : List α} (i j : Int)
    (HO : d.R e W base ok (.slice (some ⟨g, 0, none⟩) n cap) xs) (h0 : 0 ≤ i) (h1 : i < n) (j0 : 0 ≤ j) (j1 : j < 64) : W.cell? ⟨g, i.toNat * 64 + j.toNat, none⟩ = some (.int .u64 (rd (f (xs.getD i.toNat z)) j)) := by
  obtain ⟨c, hcl, hM, hcc, hfr⟩ := Kd.R_elem HO z i h0 h1
  obtain rfl := ho _ _ _ _ _ hM
  rw [hz] at hcc
  exact hcc j.toNat (.int .u64 (rd (f (xs.getD i.toNat z)) j)) (by rw [Array.getElem?_toList, plA_get _ _ (by omega), Int.toNat_of_nonneg j0])
section
variable {P : Program} {ops : Array Oper} {rest : List Oper} {o : Oper} {a : Act} {Q : Exit → Act → World → Prop} {W : World} {α : Type}
theorem pl_litRunA {T e : TypeId} {x : List Int} (h : ∃ p : Tmp, o.op = .buildSlice T 1 #[(0, .tmp p)] ∧ a.eval (.tmp p) = .agg (plA x)) (hu : P.underlying T = some (.slice e)) (hi : (P.info? e).map (fun i => (i.zero, i.size, i.bytes)) = some (some (.agg (plA pl0_)), 64, 512)) :
    (execOp a.eval o).run P W = .ok (.value (.slice (some ⟨W.heap.size, 0, none⟩) 1 1)) (W.alloc (.cells (plA x) e)) := by
  have h2 := pl_litRun (P := P) (W := W) h hu hi
  rw [Array.toArray_toList] at h2
  exact h2
theorem pl_append (d : Kd α) (f : α → List Int) (x' : α) (hz : d.sz = 64) (hm : ∀ w base ok, d.M w base ok x' (plA (f x')).toList) {w0 : World} {base : Nat} (hgd : o.guard = none) {s x : Operand} {t e : TypeId}
    (ho : o.op = .call { callee := .builtin .append, args := #[s, x], argTypes := #[t, t] }) (ht : P.underlying t = some (.slice e)) (hi : (P.info? e).map (fun i => (i.zero, i.size, i.bytes)) = some (some (.agg (plA pl0_)), 64, 512))
    {v : Value} {xs : List α} (hs : a.eval s = v) (hx : a.eval x = .slice (some ⟨W.heap.size, 0, none⟩) 1 1) (HO : d.R e W base (fun _ => True) v xs) (HB : Below base w0 W) (hbase : base ≤ W.heap.size) (hl : xs.length < 274877906944)
    (h : ∀ v1 w1, d.R e w1 base (fun _ => True) v1 (xs ++ [x']) → Below base w0 w1 → wpList P ops Q rest (a.put o.dst v1) w1) : wpList P ops Q (o :: rest) a (W.alloc (.cells (plA (f x')) e)) := by
  have h2 := Kd.R_append (P := P) (ops := ops) (rest := rest) (a := a) (Q := Q) (W := W) d (w0 := w0) base hgd s x t e (.agg (plA pl0_)) 512 ho ht (by rw [hz]; exact hi) ((plA_size _).trans hz.symm) (by rw [hz]; decide) (by decide) v xs x' (plA (f x')).toList (fun _ => True) (fun _ => False) hs hx (hm _ _ _) (fun _ hk => hk.elim) (fun _ _ => trivial) HO HB hbase (by omega) (fun v1 w1 hr hb _ _ => h v1 w1 hr hb)
  rw [Array.toArray_toList] at h2
  exact h2
end
end Go.Proofs.YtkgeppbjfkhjcaaW.PrintMore
