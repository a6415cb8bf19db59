/- Plain lemmas of this repository on numbers, lists and rounds, for the pure proofs of this seat's laws; no condition beyond those in each statement. -/
import Derived.Test.YtkgeppbjfkhjcaaXWords
namespace Go.Proofs.Ytkgeppbjfkhjcaa.XLib
open Go.RowKit Go.Proofs.YtkgeppbjfkhjcaaW.PrintWords Go.Proofs.YtkgeppbjfkhjcaaW.PrintMore
/-! ### numbers -/
theorem w64 {x : Int} (h0 : -9223372036854775808 ≤ x) (h1 : x ≤ 9223372036854775807) : wrap64 x = x := by unfold wrap64; omega
theorem w16 {x : Int} (h0 : -32768 ≤ x) (h1 : x ≤ 32767) : IntKind.i16.wrap x = x := by
  unfold IntKind.wrap IntKind.bits IntKind.signed; simp; omega
theorem w8 {x : Int} (h0 : -128 ≤ x) (h1 : x ≤ 127) : IntKind.i8.wrap x = x := by
  unfold IntKind.wrap IntKind.bits IntKind.signed; simp; omega
theorem tmod_pos {a b : Int} (h : 0 ≤ a) : Int.tmod a b = a % b := Int.tmod_eq_emod_of_nonneg h
theorem tdiv_pos {a b : Int} (h : 0 ≤ a) : Int.tdiv a b = a / b := Int.tdiv_eq_ediv_of_nonneg h
theorem emod_b (a : Int) {n : Int} (h : 0 < n) : 0 ≤ a % n ∧ a % n < n := ⟨Int.emod_nonneg a (by omega), Int.emod_lt_of_pos a h⟩
theorem tmod_b (a : Int) {n : Int} (h : 0 < n) : -n < Int.tmod a n ∧ Int.tmod a n < n := ⟨Int.lt_tmod_of_pos a h, Int.tmod_lt_of_pos a h⟩
theorem tmod_emod (a n : Int) : Int.tmod a n % n = a % n := by
  rw [Int.tmod_def, Int.sub_mul_emod_self_left]
theorem two_mods (a : Int) {n : Int} (h : 0 < n) : Int.tmod (Int.tmod a n + n) n = a % n := by
  have := tmod_b a h
  rw [tmod_pos (by omega), Int.add_emod_right, tmod_emod]
theorem tdiv_b (a : Int) {n : Int} (h : 0 < n) (m : Int) (h0 : -m ≤ a) (h1 : a ≤ m) : -m ≤ Int.tdiv a n ∧ Int.tdiv a n ≤ m := by
  have e := Int.tmod_add_mul_tdiv a n
  have b := tmod_b a h
  have hm : 0 ≤ m := by omega
  constructor
  · apply Int.le_of_not_gt
    intro hc
    have : n * Int.tdiv a n ≤ n * (-m - 1) := Int.mul_le_mul_of_nonneg_left (by omega) (by omega)
    have e2 : n * (-m - 1) = -(n * m) - n := by rw [Int.mul_sub, Int.mul_neg, Int.mul_one]
    have : m ≤ n * m := by
      have := Int.mul_le_mul_of_nonneg_right (show 1 ≤ n by omega) hm
      omega
    omega
  · apply Int.le_of_not_gt
    intro hc
    have : n * (m + 1) ≤ n * Int.tdiv a n := Int.mul_le_mul_of_nonneg_left (by omega) (by omega)
    have e2 : n * (m + 1) = n * m + n := by rw [Int.mul_add, Int.mul_one]
    have : m ≤ n * m := by
      have := Int.mul_le_mul_of_nonneg_right (show 1 ≤ n by omega) hm
      omega
    omega
/-- Division rounded down, as Go's text makes it. -/
theorem floor_tdiv (a : Int) {n : Int} (h : 0 < n) : (if Int.tmod a n < 0 then Int.tdiv a n - 1 else Int.tdiv a n) = a / n := by
  have e := Int.tmod_add_mul_tdiv a n
  have b := tmod_b a h
  by_cases c : Int.tmod a n < 0
  · rw [if_pos c]
    have := (Int.ediv_emod_unique (a := a) (b := n) (r := Int.tmod a n + n) (q := Int.tdiv a n - 1) h).mpr ⟨by rw [Int.mul_sub, Int.mul_one]; omega, by omega, by omega⟩
    exact this.1.symm
  · rw [if_neg c]
    have := (Int.ediv_emod_unique (a := a) (b := n) (r := Int.tmod a n) (q := Int.tdiv a n) h).mpr ⟨e, by omega, by omega⟩
    exact this.1.symm
theorem ediv_b (a : Int) {n : Int} (h : 0 < n) (m : Int) (h0 : -m ≤ a) (h1 : a ≤ m) : -m - 1 ≤ a / n ∧ a / n ≤ m := by
  have := tdiv_b a h m h0 h1
  rw [← floor_tdiv a h]
  split <;> omega
theorem mod_ediv (a n : Int) : a - n * (a / n) = a % n := by rw [Int.emod_def]
theorem mul_b {a b A B : Int} (a0 : 0 ≤ a) (a1 : a ≤ A) (b0 : 0 ≤ b) (b1 : b ≤ B) : 0 ≤ a * b ∧ a * b ≤ A * B :=
  ⟨Int.mul_nonneg a0 b0, Int.mul_le_mul a1 b1 b0 (by omega)⟩
/-! ### lists -/
theorem rd_nat (l : List Int) (j : Nat) : rd l (j : Int) = l.getD j 0 := by simp [rd]
def I16 (l : List Int) : Prop := ∀ x ∈ l, -32768 ≤ x ∧ x ≤ 32767
theorem I16.of_wf {l : List Int} (h : ∀ x ∈ l, (Lit.int .i16 x).wf = true) : I16 l := fun x hx => by simpa [Lit.wf, IntKind.min, IntKind.max, IntKind.bits, IntKind.signed] using h x hx
theorem wf_i64 {x : Int} (h : (Lit.int .i64 x).wf = true) : -9223372036854775808 ≤ x ∧ x ≤ 9223372036854775807 := by simpa [Lit.wf, IntKind.min, IntKind.max, IntKind.bits, IntKind.signed] using h
def I64 (l : List Int) : Prop := ∀ x ∈ l, -9223372036854775808 ≤ x ∧ x ≤ 9223372036854775807
theorem I64.of_wf {l : List Int} (h : ∀ x ∈ l, (Lit.int .i64 x).wf = true) : I64 l := fun x hx => wf_i64 (h x hx)
theorem I64.rdb {l : List Int} (h : I64 l) (i : Int) : -9223372036854775808 ≤ rd l i ∧ rd l i ≤ 9223372036854775807 := by
  unfold rd
  by_cases c : i.toNat < l.length
  · have := h _ (List.getElem_mem c); simpa [List.getD_eq_getElem?_getD, c] using this
  · simp [List.getD_eq_getElem?_getD, List.getElem?_eq_none (Nat.not_lt.mp c)]
theorem I16.rdb {l : List Int} (h : I16 l) (i : Int) : -32768 ≤ rd l i ∧ rd l i ≤ 32767 := by
  unfold rd
  by_cases c : i.toNat < l.length
  · have := h _ (List.getElem_mem c); simpa [List.getD_eq_getElem?_getD, c] using this
  · simp [List.getD_eq_getElem?_getD, List.getElem?_eq_none (Nat.not_lt.mp c)]
def Valid (l : List Int) : Prop := 8 ≤ l.length ∧ l.length ≤ 360 ∧ ∀ j, j < l.length → 0 ≤ rd l (j : Int) ∧ rd l (j : Int) ≤ 10000
instance (l : List Int) : Decidable (Valid l) := by unfold Valid; infer_instance
theorem Valid.rdb {l : List Int} (h : Valid l) (i : Int) : 0 ≤ rd l i ∧ rd l i ≤ 10000 := by
  by_cases c : i.toNat < l.length
  · have := h.2.2 _ c
    have e : rd l i = rd l ((i.toNat : Nat) : Int) := by unfold rd; rw [Int.toNat_natCast]
    rw [e]; exact this
  · simp [rd, List.getD_eq_getElem?_getD, List.getElem?_eq_none (Nat.not_lt.mp c)]
/-- The lift at a step, going round. -/
def atz (l : List Int) (i : Int) : Int := rd l (i % (l.length : Int))
theorem Valid.atzb {l : List Int} (h : Valid l) (i : Int) : 0 ≤ atz l i ∧ atz l i ≤ 10000 := h.rdb _
theorem atz_nat (l : List Int) (j : Nat) (h : j < l.length) : atz l (j : Int) = rd l (j : Int) := by
  unfold atz; rw [Int.emod_eq_of_lt (by omega) (by omega)]
theorem set_app {α : Type} (a b : List α) (x y : α) (j : Nat) (h : a.length = j) : (a ++ y :: b).set j x = a ++ x :: b := by
  subst h; simp
theorem map_get (l : List Int) : (List.range l.length).map (fun j : Nat => rd l (j : Int)) = l := by
  apply List.ext_getElem (by simp)
  intro i h1 h2
  simp [rd_nat, List.getD_eq_getElem?_getD, h2]
theorem map_snoc {α : Type} (g : Nat → α) (j : Nat) : (List.range (j + 1)).map g = (List.range j).map g ++ [g j] := by
  rw [List.range_succ, List.map_append]; rfl
theorem map_len {α : Type} (g : Nat → α) (j : Nat) : ((List.range j).map g).length = j := by simp
theorem rd_map (g : Nat → Int) (n : Nat) (i : Int) (h0 : 0 ≤ i) (h1 : i < n) : rd ((List.range n).map g) i = g i.toNat := by
  unfold rd
  have : i.toNat < n := by omega
  simp [List.getD_eq_getElem?_getD, this]
/-- The integer nearest to a / b, halves going up. -/
def near (a b : Int) : Int := (2 * a + b) / (2 * b)
theorem near_b {a b M : Int} (hb : 0 < b) (h0 : 0 ≤ a) (h1 : a ≤ M * b) : 0 ≤ near a b ∧ near a b ≤ M := by
  unfold near
  refine ⟨Int.ediv_nonneg (by omega) (by omega), ?_⟩
  have e : (M + 1) * (2 * b) = 2 * (M * b) + 2 * b := by rw [Int.add_mul, Int.one_mul, Int.mul_left_comm]
  have : (2 * a + b) / (2 * b) < M + 1 := Int.ediv_lt_of_lt_mul (by omega) (by omega)
  omega
theorem near_add (x d : Int) {t : Int} (ht : 0 < t) : near (x * t + d) t = x + near d t := by
  unfold near
  have e : 2 * (x * t + d) + t = (2 * d + t) + x * (2 * t) := by rw [Int.mul_add, Int.mul_left_comm]; omega
  rw [e, Int.add_mul_ediv_right _ _ (by omega), Int.add_comm]
/-- What is between two lifts, as the fraction k / t of the way. -/
theorem between_b {x y k t : Int} (hx : 0 ≤ x) (hx1 : x ≤ 10000) (hy : 0 ≤ y) (hy1 : y ≤ 10000) (hk : 0 ≤ k) (hk1 : k ≤ t) : 0 ≤ x * t + (y - x) * k ∧ x * t + (y - x) * k ≤ 10000 * t := by
  have e : x * t + (y - x) * k = x * (t - k) + y * k := by rw [Int.sub_mul, Int.mul_sub]; omega
  have a := Int.mul_nonneg hx (show 0 ≤ t - k by omega)
  have b := Int.mul_nonneg hy hk
  have c := Int.mul_le_mul_of_nonneg_right hx1 (show 0 ≤ t - k by omega)
  have d := Int.mul_le_mul_of_nonneg_right hy1 hk
  rw [e]
  refine ⟨by omega, ?_⟩
  have : (10000 : Int) * (t - k) + 10000 * k = 10000 * t := by omega
  omega
theorem sub_mul_b {x y k K : Int} (hx : 0 ≤ x) (hx1 : x ≤ 10000) (hy : 0 ≤ y) (hy1 : y ≤ 10000) (hk : 0 ≤ k) (hk1 : k ≤ K) : -(10000 * K) ≤ (y - x) * k ∧ (y - x) * k ≤ 10000 * K := by
  have a := Int.mul_le_mul_of_nonneg_right (show y - x ≤ 10000 by omega) hk
  have b := Int.mul_le_mul_of_nonneg_right (show -10000 ≤ y - x by omega) hk
  have c : 10000 * k ≤ 10000 * K := by omega
  exact ⟨by omega, by omega⟩
/-- A cam out of lifts that are told, and its code. -/
def made (g : Nat → Int) (n : Nat) : List Int × Int := if ∀ j, j < n → 0 ≤ g j ∧ g j ≤ 10000 then ((List.range n).map g, 0) else ([], 3)
theorem made_congr {g h : Nat → Int} {n : Nat} (e : ∀ j, j < n → g j = h j) : made g n = made h n := by
  unfold made
  have : (∀ j, j < n → 0 ≤ g j ∧ g j ≤ 10000) ↔ (∀ j, j < n → 0 ≤ h j ∧ h j ≤ 10000) := ⟨fun x j hj => e j hj ▸ x j hj, fun x j hj => (e j hj).symm ▸ x j hj⟩
  by_cases c : ∀ j, j < n → 0 ≤ g j ∧ g j ≤ 10000
  · rw [if_pos c, if_pos (this.mp c)]
    congr 1
    exact List.map_congr_left fun j hj => e j (List.mem_range.mp hj)
  · rw [if_neg c, if_neg (fun x => c (this.mpr x))]
theorem made_len (g : Nat → Int) (n : Nat) : (made g n).1.length ≤ n := by unfold made; split <;> simp
/-- The first number that is not 0. -/
def fnz : List Int → Int
  | [] => 0
  | x :: xs => if x = 0 then fnz xs else x
/-! ### rounds -/
theorem evs {α : Type} {g : Nat → Option α} {r : α} (h : Ev (fun k => g (k + 1)) r) : Ev g r := Ev.step (fun _ => rfl) h
theorem eve {α : Type} {g : Nat → Option α} {r r' : α} (h : Ev g r) (e : r = r') : Ev g r' := e ▸ h
theorem evo {α : Type} {r r' : α} (h : r = r') : Ev (fun _ => some r) r' := h ▸ Ev.now r
theorem ev_loop {ρ : Type} (L : Nat → Nat → Option ρ) (n : Nat) (r : ρ) (hs : ∀ j, j < n → Ev (fun k => L k (j + 1)) r → Ev (fun k => L k j) r) (he : Ev (fun k => L k n) r) : Ev (fun k => L k 0) r := by
  suffices H : ∀ d j, j + d = n → Ev (fun k => L k j) r from H n 0 (by omega)
  intro d
  induction d with
  | zero => intro j hj; obtain rfl : j = n := by omega
            exact he
  | succ d ih => intro j hj; exact hs j (by omega) (ih (j + 1) (by omega))
/-- What the first place at which p fails tells. -/
def ff {ρ : Type} (p : Nat → Bool) (r1 : ρ) (r2 : Nat → ρ) : Nat → Nat → ρ
  | 0, _ => r1
  | d + 1, j => if p j = true then ff p r1 r2 d (j + 1) else r2 j
theorem ev_find {ρ : Type} (L : Nat → Nat → Option ρ) (p : Nat → Bool) (n : Nat) (r1 : ρ) (r2 : Nat → ρ)
    (ht : ∀ j r, j < n → p j = true → Ev (fun k => L k (j + 1)) r → Ev (fun k => L k j) r) (hf : ∀ j, j < n → p j = false → Ev (fun k => L k j) (r2 j))
    (he : Ev (fun k => L k n) r1) : Ev (fun k => L k 0) (ff p r1 r2 n 0) := by
  suffices H : ∀ d j, j + d = n → Ev (fun k => L k j) (ff p r1 r2 d j) from H n 0 (by omega)
  intro d
  induction d with
  | zero => intro j hj; obtain rfl : j = n := by omega
            exact he
  | succ d ih =>
    intro j hj
    unfold ff
    by_cases c : p j = true
    · rw [if_pos c]; exact ht j _ (by omega) c (ih (j + 1) (by omega))
    · rw [if_neg c]; exact hf j (by omega) (by simpa using c)
theorem ff_eq {ρ : Type} (p : Nat → Bool) (a : ρ) (r2 : Nat → ρ) (n : Nat) : (∀ j, j < n → p j = true) ∧ ff p a r2 n 0 = a ∨ ∃ m, m < n ∧ p m = false ∧ (∀ j, j < m → p j = true) ∧ ff p a r2 n 0 = r2 m := by
  suffices H : ∀ d i, i + d = n → (∀ j, j < i → p j = true) → (∀ j, j < n → p j = true) ∧ ff p a r2 d i = a ∨ ∃ m, m < n ∧ p m = false ∧ (∀ j, j < m → p j = true) ∧ ff p a r2 d i = r2 m from H n 0 (by omega) (fun j hj => by omega)
  intro d
  induction d with
  | zero => intro i hi hp; obtain rfl : i = n := by omega
            exact .inl ⟨hp, rfl⟩
  | succ d ih =>
    intro i hi hp
    unfold ff
    by_cases c : p i = true
    · rw [if_pos c]
      exact ih (i + 1) (by omega) (fun j hj => by by_cases e : j = i; · rw [e]; exact c
                                                  · exact hp j (by omega))
    · rw [if_neg c]
      exact .inr ⟨i, by omega, by simpa using c, hp, rfl⟩
theorem ff_all (p : Nat → Bool) (n : Nat) : ff p true (fun _ => false) n 0 = decide (∀ j, j < n → p j = true) := by
  rcases ff_eq p true (fun _ => false) n with ⟨h, e⟩ | ⟨m, hm, hf, _, e⟩
  · rw [e]; exact (decide_eq_true h).symm
  · rw [e]; exact (decide_eq_false (fun h => by rw [h m hm] at hf; cases hf)).symm
theorem ff_made (g : Nat → Int) (n : Nat) : ff (fun j => decide (0 ≤ g j ∧ g j ≤ 10000)) ((List.range n).map g, (0 : Int)) (fun _ => ([], 3)) n 0 = made g n := by
  unfold made
  rcases ff_eq (fun j => decide (0 ≤ g j ∧ g j ≤ 10000)) ((List.range n).map g, (0 : Int)) (fun _ => ([], 3)) n with ⟨h, e⟩ | ⟨m, hm, hf, _, e⟩
  · rw [e, if_pos (fun j hj => by simpa using h j hj)]
  · rw [e, if_neg (fun h => by have := h m hm; simp [this] at hf)]
/-- A loop that makes a cam out of what is told of each step. -/
theorem ev_made (L : Nat → List Int → Int → Option (List Int × Int)) (C : Nat → Int → Option Int) (g : Nat → Int) (n : Nat) (N : Int) (hN : N = n) (hn : n ≤ 10000000)
    (hL : ∀ k out i, L (k + 1) out i = if i < N then (C k i).bind fun t => (if decide (0 ≤ t ∧ t ≤ 10000) = true then (if out.length < 70368744177664 then L k (out ++ [IntKind.i16.wrap t]) (wrap64 (i + 1)) else none) else some ([], 3)) else some (out, 0))
    (hC : ∀ j, j < n → Ev (fun k => C k (j : Int)) (g j)) : Ev (fun k => L k [] 0) (made g n) := by
  subst hN
  have := ev_find (fun k j => L k ((List.range j).map g) (j : Int)) (fun j => decide (0 ≤ g j ∧ g j ≤ 10000)) n ((List.range n).map g, 0) (fun _ => ([], 3)) ?_ ?_ ?_
  · rw [ff_made] at this; exact this
  · intro j r hj hp ih
    refine evs ?_
    simp (disch := omega) only [hL, if_pos]
    refine Ev.bind (hC j hj) ?_
    have hp' := of_decide_eq_true hp
    have e : ((List.range j).map g).length = j := by simp
    simp (disch := omega) only [hp', and_self, decide_true, if_true, e, if_pos, w16, w64]
    rw [← map_snoc g]
    exact ih
  · intro j hj hp
    refine evs ?_
    simp (disch := omega) only [hL, if_pos]
    refine Ev.bind (hC j hj) ?_
    rw [hp]
    exact evo rfl
  · refine evs ?_
    simp (disch := omega) only [hL, if_neg]
    exact evo rfl
/-- A loop that collects what is told of each step. -/
theorem ev_nums {ρ : Type} (F : List Int → ρ) (L : Nat → List Int → Int → Option ρ) (C : Nat → Int → Option Int) (g : Nat → Int) (n : Nat) (N : Int) (hN : N = n) (hn : n ≤ 10000000) (lim : Nat) (hlim : 10000000 < lim)
    (hL : ∀ k out i, L (k + 1) out i = if i < N then (C k i).bind fun t => (if out.length < lim then L k (out ++ [t]) (wrap64 (i + 1)) else none) else some (F out))
    (hC : ∀ j, j < n → Ev (fun k => C k (j : Int)) (g j)) : Ev (fun k => L k [] 0) (F ((List.range n).map g)) := by
  subst hN
  have := ev_loop (fun k j => L k ((List.range j).map g) (j : Int)) n (F ((List.range n).map g)) ?_ ?_
  · exact this
  · intro j hj ih
    refine evs ?_
    simp (disch := omega) only [hL, if_pos]
    refine Ev.bind (hC j hj) ?_
    have e : ((List.range j).map g).length = j := by simp
    simp (disch := omega) only [e, if_pos, w64]
    rw [← map_snoc g]
    exact ih
  · refine evs ?_
    simp (disch := omega) only [hL, if_neg]
    exact evo rfl
theorem ev_pos {α : Type} {c : Prop} [Decidable c] {a b : Nat → Option α} {r : α} (h : c) (k : Ev a r) : Ev (fun n => if c then a n else b n) r := by simpa only [if_pos h] using k
theorem ev_neg {α : Type} {c : Prop} [Decidable c] {a b : Nat → Option α} {r : α} (h : ¬ c) (k : Ev b r) : Ev (fun n => if c then a n else b n) r := by simpa only [if_neg h] using k
theorem evc {α : Type} {a r : α} (h : a = r) : Ev (fun _ => some a) r := h ▸ Ev.now a
theorem ev_rounds {α : Type} {g : Nat → Option α} {r : α} (h : Ev g r) : ∃ k, g k = some r := h.rounds
end Go.Proofs.Ytkgeppbjfkhjcaa.XLib
