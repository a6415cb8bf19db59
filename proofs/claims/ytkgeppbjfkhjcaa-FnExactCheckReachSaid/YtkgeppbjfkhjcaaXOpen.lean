/- Words of this repository: what is read of an argument of any type of ints, bools, slices and structs, as the print's kinds tell it; no condition beyond those in each statement. -/
import Derived.Test.YtkgeppbjfkhjcaaXWords
import Derived.Test.YtkgeppbjfkhjcaaXPlate
import Derived.Deep.Slices
import Derived.OpenShut
namespace Go.Proofs.Ytkgeppbjfkhjcaa.XOpen
open Go.RowKit Go.ChangeShapes Go.WideShapes Go.Deep Go.Proofs.YtkgeppbjfkhjcaaW.PrintWords Go.Proofs.YtkgeppbjfkhjcaaW.PrintMore
/-- Whatever is read of a type's cells is a value of the kind, and it is well-formed. -/
def Opens (P : Program) (t : TypeId) {α : Type} (d : Kd α) (ok : α → Prop) : Prop :=
  ∀ (H : Type) (enc : TypeId × Value → H) (w : World) (base : Nat) (spare : Nat → Bool) (held : Bool) (fuel : Nat) (cs : List Value) (x : DataW H × List MemPlace),
    DataW.trod enc P w base spare held fuel t cs = some x → ∃ y, d.K w y cs ∧ ok y
def OpensF (P : Program) (fs : List Field) (off len : Nat) {α : Type} (d : Kd α) (ok : α → Prop) : Prop :=
  ∀ (H : Type) (enc : TypeId × Value → H) (w : World) (base : Nat) (spare : Nat → Bool) (held : Bool) (n : Nat) (cs : List Value), cs.length = len →
    (∀ f, f ∈ fs → ∃ y, DataW.trod enc P w base spare held n f.type ((cs.drop f.offset).take (P.cellsOf f.type)) = some y) → ∃ y, d.K w y (cs.drop off) ∧ ok y
section
variable {P : Program} {t e : TypeId} {α β : Type} {d : Kd α} {d2 : Kd β} {ok : α → Prop} {ok2 : β → Prop}
theorem opens_int {k : IntKind} (ht : P.underlying t = some (.int k)) : Opens P t (Kd.int k) (fun n => (Lit.int k n).wf = true) := by
  intro H enc w base spare held fuel cs x h
  obtain ⟨n, hc, _, hw⟩ := DataW.trod_int ht h
  exact ⟨n, hc, hw⟩
theorem opens_bool (ht : P.underlying t = some .bool) : Opens P t Kd.bool (fun _ => True) := by
  intro H enc w base spare held fuel cs x h
  obtain ⟨b, hc, _⟩ := DataW.trod_bool ht h
  exact ⟨b, hc, trivial⟩
theorem opens_iso (h : Opens P t d ok) (f : β → α) (g : α → β) (e : ∀ a, f (g a) = a) : Opens P t (Kd.iso d f) (fun b => ok (f b)) := by
  intro H enc w base spare held fuel cs x hx
  obtain ⟨y, hK, hok⟩ := h H enc w base spare held fuel cs x hx
  exact ⟨g y, by show d.K w (f (g y)) cs; rw [e]; exact hK, by show ok (f (g y)); rw [e]; exact hok⟩
theorem opensF_last {f : Field} {off len : Nat} (h : Opens P f.type d ok) (ho : f.offset = off) (hs : off + P.cellsOf f.type = len) : OpensF P [f] off len d ok := by
  intro H enc w base spare held n cs hl hf
  obtain ⟨y, hy⟩ := hf f (List.mem_singleton.2 rfl)
  obtain ⟨z, hK, hok⟩ := h H enc w base spare held n _ y hy
  rw [ho, List.take_of_length_le (by rw [List.length_drop]; omega)] at hK
  exact ⟨z, hK, hok⟩
theorem opensF_cons {f : Field} {fs : List Field} {off len : Nat} (h : Opens P f.type d ok) (ho : f.offset = off) (hr : OpensF P fs (off + P.cellsOf f.type) len d2 ok2) : OpensF P (f :: fs) off len (Kd.pair d d2) (fun y => ok y.1 ∧ ok2 y.2) := by
  intro H enc w base spare held n cs hl hf
  obtain ⟨y, hy⟩ := hf f List.mem_cons_self
  obtain ⟨z, hK, hok⟩ := h H enc w base spare held n _ y hy
  obtain ⟨z2, hK2, hok2⟩ := hr H enc w base spare held n cs hl (fun g hg => hf g (List.mem_cons_of_mem _ hg))
  rw [ho] at hK
  exact ⟨(z, z2), ⟨_, _, by rw [← List.drop_drop, List.take_append_drop], hK, hK2⟩, hok, hok2⟩
theorem opens_struct {fs : Array Field} (ht : P.underlying t = some (.struct fs)) (h : OpensF P fs.toList 0 (P.cellsOf t) d ok) : Opens P t d ok := by
  intro H enc w base spare held fuel cs x hx
  obtain ⟨xs, n, _, _, hl, hlen, hf⟩ := DataW.trod_struct ht hx
  have := h H enc w base spare held n cs hl (fun f hf' => by
    obtain ⟨i, hi, rfl⟩ := List.getElem_of_mem hf'
    have hi' : i < fs.size := by simpa using hi
    have := hf i fs.toList[i] (by simp [hi'])
    rw [List.getElem?_eq_getElem (by omega)] at this
    exact ⟨_, this⟩)
  rw [List.drop_zero] at this
  exact this
theorem okWide_array {n : Nat} {w : World} {r : Reach} {base : Nat} {v : Value} (ht : P.underlying t = some (.array n e)) (h : Value.okWide P w r base t v) : ∃ cs, v = .agg cs ∧ cs.size = P.cellsOf t := by
  simp only [Value.okWide, ht] at h
  obtain ⟨cs, h1, h2, _⟩ := h
  exact ⟨cs, h1, h2⟩
theorem opens_array2 (ht : P.underlying t = some (.array 2 e)) (hs : P.cellsOf t = P.cellsOf e + P.cellsOf e) (h : Opens P e d ok) : Opens P t (Kd.pair d d) (fun y => ok y.1 ∧ ok y.2) := by
  intro H enc w base spare held fuel cs x hx
  obtain ⟨xs, m, _, _, hl, hlen, hi⟩ := DataW.trod_array ht hx
  have h0 := hi 0 (by omega)
  have h1 := hi 1 (by omega)
  rw [List.getElem?_eq_getElem (by omega)] at h0 h1
  obtain ⟨y0, k0, o0⟩ := h H enc w base spare held m _ _ h0
  obtain ⟨y1, k1, o1⟩ := h H enc w base spare held m _ _ h1
  rw [Nat.zero_mul, List.drop_zero] at k0
  rw [Nat.one_mul, List.take_of_length_le (by rw [List.length_drop]; omega)] at k1
  exact ⟨(y0, y1), ⟨_, _, (List.take_append_drop _ cs).symm, k0, k1⟩, o0, o1⟩
theorem list_of (p : Nat → α → Prop) (n : Nat) (h : ∀ i, i < n → ∃ y, p i y) : ∃ l : List α, l.length = n ∧ ∀ j y, l[j]? = some y → p j y := by
  induction n with
  | zero => exact ⟨[], rfl, fun j y hj => by simp at hj⟩
  | succ n ih =>
    obtain ⟨l, hl, hp⟩ := ih (fun i hi => h i (by omega))
    obtain ⟨y, hy⟩ := h n (by omega)
    refine ⟨l ++ [y], by simp [hl], fun j z hj => ?_⟩
    by_cases c : j < n
    · rw [List.getElem?_append_left (by omega)] at hj; exact hp j z hj
    · by_cases c2 : j = n
      · subst c2; rw [List.getElem?_append_right (by omega), hl] at hj; simp at hj; subst hj; exact hy
      · rw [List.getElem?_eq_none (by simp; omega)] at hj; cases hj
theorem opens_plate (ht : P.underlying t = some (.array 64 e)) (he : P.underlying e = some (.int .u64)) (hs : P.cellsOf t = 64) (hs1 : P.cellsOf e = 1) : Opens P t kPl (fun x => x.length = 64 ∧ ∀ v ∈ x, (Lit.int .u64 v).wf = true) := by
  intro H enc w base spare held fuel cs x hx
  obtain ⟨xs, m, _, _, hl, hlen, hi⟩ := DataW.trod_array ht hx
  rw [hs] at hl
  obtain ⟨l, hln, hp⟩ := list_of (fun j y => cs[j]? = some (Value.int .u64 y) ∧ (Lit.int .u64 y).wf = true) 64 (fun j hj => by
    have h0 := hi j (by omega)
    rw [List.getElem?_eq_getElem (by omega)] at h0
    obtain ⟨y, hK, hok⟩ := opens_int (P := P) he H enc w base spare held m _ _ h0
    refine ⟨y, ?_, hok⟩
    rw [hs1, Nat.mul_one] at hK
    have h1 : (List.take 1 (List.drop j cs))[0]? = some (Value.int .u64 y) := by rw [show List.take 1 (List.drop j cs) = [Value.int .u64 y] from hK]; rfl
    rw [List.getElem?_take_of_lt (by decide), List.getElem?_drop, Nat.add_zero] at h1
    exact h1)
  have hcs : cs = (plA l).toList := by
    apply List.ext_getElem?
    intro j
    by_cases c : j < 64
    · have hj : j < l.length := by omega
      rw [(hp j l[j] (List.getElem?_eq_getElem hj)).1, Array.getElem?_toList, plA_get _ _ c]
      simp [rd, List.getD_eq_getElem?_getD, hj]
    · rw [List.getElem?_eq_none (by omega), List.getElem?_eq_none (by simp [plA_size]; omega)]
  refine ⟨l, hcs ▸ kPl_mk w l, hln, fun v hv => ?_⟩
  obtain ⟨j, hj, rfl⟩ := List.getElem_of_mem hv
  exact (hp j _ (List.getElem?_eq_getElem hj)).2
theorem opens_slice (E : Nat) (ht : P.underlying t = some (.slice e)) (hs : P.cellsOf e = d.sz) (h : Opens P e d ok) : Opens P t (Kd.slice E d) (fun l => l.length ≤ maxLen ∧ ∀ x ∈ l, ok x) := by
  intro H enc w base spare held fuel cs x hx
  rcases open_slice ht hx with ⟨rfl, _⟩ | ⟨a, len, cap, m, n, D, Pl, rfl, _, hl, hm, hmm, _, hi⟩
  · exact ⟨[], ⟨none, 0, rfl, Nat.le_refl _, rfl, by simp, fun h => absurd h (Nat.not_lt_zero _)⟩, Nat.zero_le _, fun x hx => by cases hx⟩
  · have hle : len ≤ m := by rw [hmm]; split <;> omega
    obtain ⟨l, hlen, hp⟩ := list_of (fun i y => (∃ c, c.length = d.sz ∧ d.K w y c ∧ ∀ q u, c[q]? = some u → w.cell? (a.add (i * d.sz + q)) = some u) ∧ ok y) len (fun i hi' => by
      obtain ⟨cs', hc, hT⟩ := hi i (by omega)
      obtain ⟨y, hK, hok⟩ := h H enc w base spare held n cs' _ hT
      obtain ⟨_, hcl, hcell⟩ := World.cells?_some hc
      refine ⟨y, ⟨cs', by rw [hcl, hs], hK, fun q u hq => ?_⟩, hok⟩
      have hqn : q < P.cellsOf e := by
        have := (List.getElem?_eq_some_iff.1 hq).1
        omega
      have := hcell q hqn
      rw [hq, Deep.add_add, hs] at this
      exact this)
    refine ⟨l, ⟨some a, cap, by rw [hlen], by omega, by rw [hlen], ?_, fun _ => ⟨a, rfl, fun j y hj => (hp j y hj).1⟩⟩, by omega, fun x hx => ?_⟩
    · rw [hlen]; have : maxLen ≤ 9223372036854775807 := by decide
      omega
    · obtain ⟨j, hj, rfl⟩ := List.getElem_of_mem hx
      exact (hp j _ (List.getElem?_eq_getElem hj)).2
end
end Go.Proofs.Ytkgeppbjfkhjcaa.XOpen
