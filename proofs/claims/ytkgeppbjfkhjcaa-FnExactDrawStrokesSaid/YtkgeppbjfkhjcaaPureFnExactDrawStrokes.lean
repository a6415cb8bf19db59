/- The pure statement of the law FnExactDrawStrokes: the program's function and the reference's tell the same of every input, by plain lemmas on numbers, lists and rounds; no further condition. -/
import Derived.Test.YtkgeppbjfkhjcaaXFnExactDrawStrokesx
import Derived.Test.YtkgeppbjfkhjcaaXLib
namespace Go.Proofs.Ytkgeppbjfkhjcaa.Pure
open Go.RowKit Go.Proofs.Ytkgeppbjfkhjcaa.XFnExactDrawStrokes Go.Proofs.Ytkgeppbjfkhjcaa.XLib Go.Proofs.YtkgeppbjfkhjcaaW.PrintWords Go.Proofs.YtkgeppbjfkhjcaaW.PrintLast Go.Proofs.YtkgeppbjfkhjcaaW.PrintMore
set_option maxRecDepth 100000
set_option linter.unusedVariables false
set_option linter.unusedSimpArgs false
/-! base_spec -/
theorem e_spec_l00In (a b c : Int) : spec_l00In.f a b c = some (decide (b ≤ a ∧ a ≤ c)) := by
  unfold spec_l00In.f
  by_cases h : b ≤ a <;> simp [h]

/-! base_impl -/
theorem e_impl_inRange (a b c : Int) : impl_inRange.f a b c = some (decide (b ≤ a ∧ a ≤ c)) := by
  unfold impl_inRange.f
  by_cases h : b ≤ a <;> simp [h]

/-! markok -/
def MarkOk (a b : Int) : Prop := (0 ≤ a ∧ a ≤ 63) ∧ (0 ≤ b ∧ b ≤ 63)
instance (a b : Int) : Decidable (MarkOk a b) := by unfold MarkOk; infer_instance
theorem e_spec_l07Mark (a b : Int) (h0 : -32768 ≤ a ∧ a ≤ 32767) (h1 : -32768 ≤ b ∧ b ≤ 32767) : spec_l07Mark.f a b = some (decide (MarkOk a b)) := by
  unfold spec_l07Mark.f
  simp (disch := omega) only [w64, e_spec_l00In, Option.bind_some]
  by_cases c : 0 ≤ a ∧ a ≤ 63
  · rw [decide_eq_true c, if_pos rfl]
    exact congrArg some (decide_eq_decide.mpr ⟨fun h => ⟨c, h⟩, fun h => h.2⟩)
  · rw [decide_eq_false c, if_neg (by decide)]
    exact congrArg some (decide_eq_false fun h => c h.1).symm
theorem e_impl_ValidMark (a b : Int) (h0 : -32768 ≤ a ∧ a ≤ 32767) (h1 : -32768 ≤ b ∧ b ≤ 32767) : impl_ValidMark.f a b = some (decide (MarkOk a b)) := by
  unfold impl_ValidMark.f
  simp (disch := omega) only [w64, e_impl_inRange, Option.bind_some]
  by_cases c : 0 ≤ a ∧ a ≤ 63
  · rw [decide_eq_true c, if_pos rfl]
    exact congrArg some (decide_eq_decide.mpr ⟨fun h => ⟨c, h⟩, fun h => h.2⟩)
  · rw [decide_eq_false c, if_neg (by decide)]
    exact congrArg some (decide_eq_false fun h => c h.1).symm

/-! mx -/
theorem e_spec_l00Max' (a b : Int) : (if a > b then some a else some b) = some (mx a b) := by
  unfold mx
  by_cases h : a > b
  · rw [if_pos h, if_neg (by omega)]
  · rw [if_neg h]; by_cases h2 : a < b
    · rw [if_pos h2]
    · rw [if_neg h2, show a = b by omega]

/-! szf -/
def sz (x : Int) : Int := if x < 0 then -x else x
theorem e_size (x : Int) (h0 : -100000 ≤ x) (h1 : x ≤ 100000) : spec_l01Size.f x = some (sz x) := by
  unfold spec_l01Size.f sz
  by_cases c : x < 0
  · rw [if_pos c, if_pos c, w64 (by omega) (by omega)]
  · rw [if_neg c, if_neg c]
theorem sz_neg (x : Int) : mx x (-x) = sz x := by unfold mx sz; split <;> split <;> omega
theorem e_impl_abs2 (x : Int) (h0 : -100000 ≤ x) (h1 : x ≤ 100000) : impl_abs.f x = some (sz x) := by
  unfold impl_abs.f
  rw [w64 (by omega) (by omega), sz_neg]

/-! far -/
def farM (a0 a1 b0 b1 : Int) : Int := mx (sz (a0 - b0)) (sz (a1 - b1))
theorem farM_b {a0 a1 b0 b1 : Int} (ha : MarkOk a0 a1) (hb : MarkOk b0 b1) : 0 ≤ farM a0 a1 b0 b1 ∧ farM a0 a1 b0 b1 ≤ 63 := by
  obtain ⟨x1, x2⟩ := ha
  obtain ⟨y1, y2⟩ := hb
  have p : 0 ≤ sz (a0 - b0) ∧ sz (a0 - b0) ≤ 63 := by unfold sz; split <;> omega
  have q : 0 ≤ sz (a1 - b1) ∧ sz (a1 - b1) ≤ 63 := by unfold sz; split <;> omega
  unfold farM mx; split <;> omega
theorem e_spec_l07Far {a0 a1 b0 b1 : Int} (ha : MarkOk a0 a1) (hb : MarkOk b0 b1) : spec_l07Far.f a0 a1 b0 b1 = some (farM a0 a1 b0 b1) := by
  obtain ⟨x1, x2⟩ := ha
  obtain ⟨y1, y2⟩ := hb
  unfold spec_l07Far.f farM
  simp (disch := omega) only [w64, e_size, Option.bind_some]
  unfold spec_l00Max.f
  rw [e_spec_l00Max']; rfl
theorem sz_sym (x y : Int) : sz (x - y) = sz (y - x) := by unfold sz; split <;> split <;> omega
theorem e_impl_between {a0 a1 b0 b1 : Int} (ha : MarkOk a0 a1) (hb : MarkOk b0 b1) : impl_between.f a0 a1 b0 b1 = some (farM a0 a1 b0 b1) := by
  obtain ⟨x1, x2⟩ := ha
  obtain ⟨y1, y2⟩ := hb
  unfold impl_between.f impl_abs.f farM
  simp (disch := omega) only [w64, Option.bind_some]
  rw [sz_neg, sz_neg, sz_sym b0 a0, sz_sym b1 a1]

/-! impl_mod -/
theorem e_impl_floorDiv (a n : Int) (h : 0 < n) (ha : -9223372036854775807 ≤ a) (hb : a ≤ 9223372036854775807) : impl_floorDiv.f a n = some (a / n) := by
  unfold impl_floorDiv.f
  have := tdiv_b a h 9223372036854775807 ha hb
  rw [if_neg (by omega), ← floor_tdiv a h]
  by_cases c : Int.tmod a n < 0
  · simp (disch := omega) only [if_pos c, w64]
  · simp (disch := omega) only [if_neg c, w64]

/-! near -/
theorem e_spec_l01Near (a b : Int) (hb : 0 < b) (hb1 : b ≤ 1000000000000000000) (h0 : -4000000000000000000 ≤ a) (h1 : a ≤ 4000000000000000000) : spec_l01Near.f a b = some (near a b) := by
  unfold spec_l01Near.f near
  have b3 := tdiv_b (2 * a + b) (n := 2 * b) (by omega) 9200000000000000000 (by omega) (by omega)
  simp (disch := omega) only [w64]
  rw [if_neg (by omega), ← floor_tdiv _ (show 0 < 2 * b by omega)]
  split <;> rfl
theorem e_impl_nearest (a b : Int) (hb : 0 < b) (hb1 : b ≤ 1000000000000000000) (h0 : -4000000000000000000 ≤ a) (h1 : a ≤ 4000000000000000000) : impl_nearest.f a b = some (near a b) := by
  unfold impl_nearest.f near
  simp (disch := omega) only [w64, e_impl_floorDiv, Option.bind_some]

/-! shp -/
/-- The shape of a motion: how far along, as a fraction. -/
def shp (c k n : Int) : Int × Int :=
  if c = 1 then (if 2 * k ≤ n then (2 * k * k, n * n) else (n * n - 2 * (n - k) * (n - k), n * n))
  else if c = 2 then (3 * k * k * n - 2 * k * k * k, n * n * n)
  else if c = 3 then (k * k * k * (10 * n * n - 15 * k * n + 6 * k * k), n * n * n * n * n)
  else (k, n)
theorem sq_b {a b A B : Int} (a0 : 0 ≤ a) (a1 : a ≤ A) (b0 : -B ≤ b) (b1 : b ≤ B) : -(A * B) ≤ a * b ∧ a * b ≤ A * B := by
  have hB : 0 ≤ B := by omega
  have h1 := Int.mul_le_mul_of_nonneg_left b1 a0
  have h2 := Int.mul_le_mul_of_nonneg_left b0 a0
  have h3 := Int.mul_le_mul_of_nonneg_right a1 hB
  rw [Int.mul_neg] at h2
  exact ⟨by omega, by omega⟩
theorem shp_b (c k n : Int) (hk : 0 ≤ k) (hkn : k ≤ n) (hn : 1 ≤ n) (hn2 : n ≤ 360) :
    (1 ≤ (shp c k n).2 ∧ (shp c k n).2 ≤ 6046617600000) ∧ -97977600000000 ≤ (shp c k n).1 ∧ (shp c k n).1 ≤ 97977600000000 := by
  have n1 := mul_b (show 0 ≤ n by omega) hn2 (show 0 ≤ n by omega) hn2
  have n2 := mul_b n1.1 n1.2 (show 0 ≤ n by omega) hn2
  have n3 := mul_b n2.1 n2.2 (show 0 ≤ n by omega) hn2
  have n4 := mul_b n3.1 n3.2 (show 0 ≤ n by omega) hn2
  have p1 := Int.mul_pos (show 0 < n by omega) (show 0 < n by omega)
  have p2 := Int.mul_pos p1 (show 0 < n by omega)
  have p3 := Int.mul_pos p2 (show 0 < n by omega)
  have p4 := Int.mul_pos p3 (show 0 < n by omega)
  have k1 := mul_b hk (show k ≤ 360 by omega) hk (show k ≤ 360 by omega)
  have k2 := mul_b k1.1 k1.2 hk (show k ≤ 360 by omega)
  have a1 := mul_b (show 0 ≤ 2 * k by omega) (show 2 * k ≤ 720 by omega) hk (show k ≤ 360 by omega)
  have a2 := mul_b (show 0 ≤ 2 * (n - k) by omega) (show 2 * (n - k) ≤ 720 by omega) (show 0 ≤ n - k by omega) (show n - k ≤ 360 by omega)
  have a3 := mul_b (show 0 ≤ 3 * k by omega) (show 3 * k ≤ 1080 by omega) hk (show k ≤ 360 by omega)
  have a4 := mul_b a3.1 a3.2 (show 0 ≤ n by omega) hn2
  have a5 := mul_b a1.1 a1.2 hk (show k ≤ 360 by omega)
  have a6 := mul_b (show 0 ≤ 10 * n by omega) (show 10 * n ≤ 3600 by omega) (show 0 ≤ n by omega) hn2
  have a7 := mul_b (show 0 ≤ 15 * k by omega) (show 15 * k ≤ 5400 by omega) (show 0 ≤ n by omega) hn2
  have a8 := mul_b (show 0 ≤ 6 * k by omega) (show 6 * k ≤ 2160 by omega) hk (show k ≤ 360 by omega)
  have a9 := sq_b (B := 2100000) k2.1 k2.2 (b := 10 * n * n - 15 * k * n + 6 * k * k) (by omega) (by omega)
  unfold shp
  split
  · split <;> (dsimp only; omega)
  · split
    · dsimp only; omega
    · split <;> (dsimp only; omega)

/-! line -/
theorem near_sm (x n : Int) (hn : 0 < n) (hn1 : n ≤ 63) (h0 : -4000 ≤ x) (h1 : x ≤ 4000) : -9000 ≤ near x n ∧ near x n ≤ 9000 := by
  unfold near
  have := ediv_b (2 * x + n) (show 0 < 2 * n by omega) 8100 (by omega) (by omega)
  omega
theorem near_0 (n : Int) (hn : 0 < n) : near 0 n = 0 := by
  unfold near; exact Int.ediv_eq_zero_of_lt (by omega) (by omega)
def pt1 (a b n k : Int) : Int := IntKind.i16.wrap (a + near (k * (b - a)) n)
def ptM (a0 a1 b0 b1 n k : Int) : S60 := ⟨pt1 a0 b0 n k, pt1 a1 b1 n k⟩
def lineL (a0 a1 b0 b1 : Int) : List S60 := (List.range ((farM a0 a1 b0 b1).toNat + 1)).map fun k : Nat => if farM a0 a1 b0 b1 = 0 then ⟨a0, a1⟩ else ptM a0 a1 b0 b1 (farM a0 a1 b0 b1) (k : Int)
theorem lineL_len (a0 a1 b0 b1 : Int) : (lineL a0 a1 b0 b1).length = (farM a0 a1 b0 b1).toNat + 1 := by simp [lineL]
theorem pt1_0 (a b n : Int) (hn : 0 < n) (h0 : 0 ≤ a) (h1 : a ≤ 63) : pt1 a b n 0 = a := by
  unfold pt1; rw [Int.zero_mul, near_0 n hn, Int.add_zero, w16 (by omega) (by omega)]
theorem e_spec_l07Line {a0 a1 b0 b1 : Int} (ha : MarkOk a0 a1) (hb : MarkOk b0 b1) : Ev (fun k => spec_l07Line.f k a0 a1 b0 b1) (lineL a0 a1 b0 b1) := by
  unfold spec_l07Line.f
  rw [e_spec_l07Far ha hb]
  have hf := farM_b ha hb
  simp only [Option.bind_some]
  by_cases c : farM a0 a1 b0 b1 = 0
  · simp only [if_pos c]
    unfold lineL
    rw [c]
    exact evo rfl
  · simp only [if_neg c]
    have hL : lineL a0 a1 b0 b1 = (List.range ((farM a0 a1 b0 b1).toNat + 1)).map fun k : Nat => ptM a0 a1 b0 b1 (farM a0 a1 b0 b1) (k : Int) := by
      unfold lineL; simp only [if_neg c]
    rw [hL]
    generalize farM a0 a1 b0 b1 = n at *
    obtain ⟨x1, x2⟩ := ha
    obtain ⟨y1, y2⟩ := hb
    have := ev_loop (fun k j => spec_l07Line.l0 k n ((List.range j).map fun k : Nat => ptM a0 a1 b0 b1 n (k : Int)) (j : Int) a0 a1 b0 b1) (n.toNat + 1) ((List.range (n.toNat + 1)).map fun k : Nat => ptM a0 a1 b0 b1 n (k : Int)) ?_ ?_
    · exact this
    · intro j hj ih
      refine evs (evs (evs (evs ?_)))
      have e : ((List.range j).map fun k : Nat => ptM a0 a1 b0 b1 n (k : Int)).length = j := map_len _ _
      have p0 := sq_b (A := 63) (B := 63) (show (0 : Int) ≤ (j : Int) by omega) (by omega) (show -63 ≤ b0 - a0 by omega) (by omega)
      have p1 := sq_b (A := 63) (B := 63) (show (0 : Int) ≤ (j : Int) by omega) (by omega) (show -63 ≤ b1 - a1 by omega) (by omega)
      have q0 := near_sm ((j : Int) * (b0 - a0)) n (by omega) (by omega) (by omega) (by omega)
      have q1 := near_sm ((j : Int) * (b1 - a1)) n (by omega) (by omega) (by omega) (by omega)
      simp (disch := omega) only [spec_l07Line.l0, spec_l07Line.l1, if_pos, if_neg, if_true, w64, e_spec_l01Near, Option.bind_some, e]
      rw [show (⟨IntKind.i16.wrap (a0 + near ((j : Int) * (b0 - a0)) n), IntKind.i16.wrap (a1 + near ((j : Int) * (b1 - a1)) n)⟩ : S60) = ptM a0 a1 b0 b1 n (j : Int) from rfl, ← map_snoc (fun k : Nat => ptM a0 a1 b0 b1 n (k : Int))]
      exact ih
    · refine evs ?_
      simp (disch := omega) only [spec_l07Line.l0, if_neg]
      exact evo rfl
theorem e_impl_lineOf {a0 a1 b0 b1 : Int} (ha : MarkOk a0 a1) (hb : MarkOk b0 b1) : Ev (fun k => impl_lineOf.f k a0 a1 b0 b1) (lineL a0 a1 b0 b1) := by
  unfold impl_lineOf.f
  rw [e_impl_between ha hb]
  have hf := farM_b ha hb
  simp only [Option.bind_some]
  by_cases c : farM a0 a1 b0 b1 = 0
  · unfold lineL
    rw [c]
    refine evs ?_
    simp (disch := omega) only [impl_lineOf.l0, if_neg]
    exact evo rfl
  · have hL : lineL a0 a1 b0 b1 = (List.range ((farM a0 a1 b0 b1).toNat + 1)).map fun k : Nat => ptM a0 a1 b0 b1 (farM a0 a1 b0 b1) (k : Int) := by
      unfold lineL; simp only [if_neg c]
    rw [hL]
    generalize farM a0 a1 b0 b1 = n at *
    obtain ⟨x1, x2⟩ := ha
    obtain ⟨y1, y2⟩ := hb
    have := ev_loop (fun k j => impl_lineOf.l0 k ((List.range (j + 1)).map fun k : Nat => ptM a0 a1 b0 b1 n (k : Int)) n ((j : Int) + 1) a0 a1 b0 b1) n.toNat ((List.range (n.toNat + 1)).map fun k : Nat => ptM a0 a1 b0 b1 n (k : Int)) ?_ ?_
    · have e0 : (⟨a0, a1⟩ : S60) = ptM a0 a1 b0 b1 n 0 := by
        unfold ptM; rw [pt1_0 a0 b0 n (by omega) x1.1 x1.2, pt1_0 a1 b1 n (by omega) x2.1 x2.2]
      rw [e0]
      exact this
    · intro j hj ih
      refine evs (evs (evs (evs ?_)))
      have e : ((List.range (j + 1)).map fun k : Nat => ptM a0 a1 b0 b1 n (k : Int)).length = j + 1 := map_len _ _
      have p0 := sq_b (A := 63) (B := 63) (show (0 : Int) ≤ (j : Int) + 1 by omega) (by omega) (show -63 ≤ b0 - a0 by omega) (by omega)
      have p1 := sq_b (A := 63) (B := 63) (show (0 : Int) ≤ (j : Int) + 1 by omega) (by omega) (show -63 ≤ b1 - a1 by omega) (by omega)
      have m0 := mul_b (A := 63) (B := 63) x1.1 x1.2 (show 0 ≤ n by omega) (by omega)
      have m1 := mul_b (A := 63) (B := 63) x2.1 x2.2 (show 0 ≤ n by omega) (by omega)
      simp (disch := omega) only [impl_lineOf.l0, impl_lineOf.l1, if_pos, if_neg, if_true, w64, e_impl_nearest, Option.bind_some, e]
      rw [near_add a0 _ (show 0 < n by omega), near_add a1 _ (show 0 < n by omega)]
      rw [show (⟨IntKind.i16.wrap (a0 + near (((j : Int) + 1) * (b0 - a0)) n), IntKind.i16.wrap (a1 + near (((j : Int) + 1) * (b1 - a1)) n)⟩ : S60) = ptM a0 a1 b0 b1 n ((j + 1 : Nat) : Int) from rfl, ← map_snoc (fun k : Nat => ptM a0 a1 b0 b1 n (k : Int))]
      exact ih
    · refine evs ?_
      simp (disch := omega) only [impl_lineOf.l0, if_neg]
      exact evo rfl

/-! inked -/
theorem or_b (v c : Int) : 0 ≤ Go.bits .or .u64 v c ∧ Go.bits .or .u64 v c ≤ 18446744073709551615 := by
  unfold Go.bits
  have h := ((BitVec.ofInt IntKind.u64.bits v) ||| (BitVec.ofInt IntKind.u64.bits c)).isLt
  dsimp only
  generalize ((BitVec.ofInt IntKind.u64.bits v) ||| (BitVec.ofInt IntKind.u64.bits c)).toNat = n at h
  unfold IntKind.wrap IntKind.signed
  unfold IntKind.bits at h ⊢
  simp
  omega
theorem or_e (v c : Int) : Go.bits .or .u64 v c = (((BitVec.ofInt 64 v) ||| (BitVec.ofInt 64 c)).toNat : Int) := by
  unfold Go.bits
  have h := ((BitVec.ofInt 64 v) ||| (BitVec.ofInt 64 c)).isLt
  show IntKind.u64.wrap (((BitVec.ofInt 64 v) ||| (BitVec.ofInt 64 c)).toNat : Int) = _
  generalize ((BitVec.ofInt 64 v) ||| (BitVec.ofInt 64 c)).toNat = n at h
  unfold IntKind.wrap IntKind.signed IntKind.bits
  simp
  omega
theorem or_of (v c : Int) : BitVec.ofInt 64 (Go.bits .or .u64 v c) = (BitVec.ofInt 64 v) ||| (BitVec.ofInt 64 c) := by
  rw [or_e]
  exact BitVec.eq_of_toNat_eq (by rw [BitVec.ofInt_natCast, BitVec.toNat_ofNat, Nat.mod_eq_of_lt (BitVec.isLt _)])
theorem or_swap (v c d : Int) : Go.bits .or .u64 (Go.bits .or .u64 v c) d = Go.bits .or .u64 (Go.bits .or .u64 v d) c := by
  rw [or_e (Go.bits .or .u64 v c) d, or_e (Go.bits .or .u64 v d) c, or_of, or_of, BitVec.or_assoc, BitVec.or_assoc, BitVec.or_comm (BitVec.ofInt 64 c)]
theorem or_twice (v c : Int) : Go.bits .or .u64 (Go.bits .or .u64 v c) c = Go.bits .or .u64 v c := by
  rw [or_e (Go.bits .or .u64 v c) c, or_of, BitVec.or_assoc, BitVec.or_self, ← or_e]
def ink1 (x : List Int) (m : S60) : List Int := x.set m.f1.toNat (inkV (rd x m.f1) m.f0)
def inkL (x : List Int) (L : List S60) : List Int := L.foldl ink1 x
theorem ink1_len (x : List Int) (m : S60) : (ink1 x m).length = x.length := by simp [ink1]
theorem inkL_len (L : List S60) : ∀ x : List Int, (inkL x L).length = x.length := by
  induction L with
  | nil => intro x; rfl
  | cons m L ih => intro x; show (inkL (ink1 x m) L).length = _; rw [ih, ink1_len]
theorem inkL_app (x : List Int) (L M : List S60) : inkL x (L ++ M) = inkL (inkL x L) M := by simp [inkL]
theorem rd_set (x : List Int) (i : Int) (j : Nat) (v : Int) (h0 : 0 ≤ i) (hl : i < x.length) : rd (x.set j v) i = if j = i.toNat then v else rd x i := by
  unfold rd
  have hi : i.toNat < x.length := by omega
  by_cases c : j = i.toNat
  · subst c; simp [hi]
  · simp [c]
theorem ink_swap (x : List Int) (hx : x.length = 64) (p q : S60) (hp : MarkOk p.f0 p.f1) (hq : MarkOk q.f0 q.f1) : ink1 (ink1 x p) q = ink1 (ink1 x q) p := by
  obtain ⟨_, p1⟩ := hp
  obtain ⟨_, q1⟩ := hq
  unfold ink1
  rw [rd_set x q.f1 _ _ (by omega) (by omega), rd_set x p.f1 _ _ (by omega) (by omega)]
  by_cases c : p.f1.toNat = q.f1.toNat
  · have e : p.f1 = q.f1 := by omega
    rw [if_pos c, if_pos c.symm, c, List.set_set, List.set_set, e]
    unfold inkV
    rw [or_swap]
  · rw [if_neg c, if_neg (fun h => c h.symm)]
    exact List.set_comm _ _ c
theorem ink_twice (x : List Int) (hx : x.length = 64) (p : S60) (hp : MarkOk p.f0 p.f1) : ink1 (ink1 x p) p = ink1 x p := by
  obtain ⟨_, p1⟩ := hp
  unfold ink1
  rw [rd_set x p.f1 _ _ (by omega) (by omega), if_pos rfl, List.set_set]
  unfold inkV
  rw [or_twice]
theorem inkL_swap (p : S60) (hp : MarkOk p.f0 p.f1) (L : List S60) : ∀ (x : List Int), x.length = 64 → (∀ m ∈ L, MarkOk m.f0 m.f1) → inkL (ink1 x p) L = ink1 (inkL x L) p := by
  induction L with
  | nil => intro x _ _; rfl
  | cons m L ih =>
    intro x hx hL
    show inkL (ink1 (ink1 x p) m) L = ink1 (inkL (ink1 x m) L) p
    rw [ink_swap x hx p m hp (hL m (by simp)), ih (ink1 x m) (by rw [ink1_len]; exact hx) (fun z hz => hL z (by simp [hz]))]
theorem near_le (x n c : Int) (hn : 0 < n) (h : x ≤ n * c) : near x n ≤ c := by
  unfold near
  have h1 : (2 * x + n) / (2 * n) < c + 1 := by
    apply Int.ediv_lt_of_lt_mul (by omega)
    have e : (c + 1) * (2 * n) = 2 * (n * c) + 2 * n := by rw [Int.add_mul, Int.one_mul, Int.mul_comm c (2 * n), Int.mul_assoc]
    omega
  omega
theorem near_ge (x n c : Int) (hn : 0 < n) (h : n * c ≤ x) : c ≤ near x n := by
  unfold near
  apply Int.le_ediv_of_mul_le (by omega)
  have e : c * (2 * n) = 2 * (n * c) := by rw [Int.mul_comm c (2 * n), Int.mul_assoc]
  omega
theorem pt1_b (a b n k : Int) (ha : 0 ≤ a ∧ a ≤ 63) (hb : 0 ≤ b ∧ b ≤ 63) (hn : 0 < n) (h0 : 0 ≤ k) (h1 : k ≤ n) : 0 ≤ pt1 a b n k ∧ pt1 a b n k ≤ 63 := by
  have H : 0 ≤ a + near (k * (b - a)) n ∧ a + near (k * (b - a)) n ≤ 63 := by
    by_cases c : a ≤ b
    · have m1 : 0 ≤ k * (b - a) := Int.mul_nonneg h0 (by omega)
      have m2 : k * (b - a) ≤ n * (b - a) := Int.mul_le_mul_of_nonneg_right h1 (by omega)
      have l1 := near_ge (k * (b - a)) n 0 hn (by omega)
      have l2 := near_le (k * (b - a)) n (b - a) hn m2
      omega
    · have m1 : k * (a - b) ≥ 0 := Int.mul_nonneg h0 (by omega)
      have m2 : k * (a - b) ≤ n * (a - b) := Int.mul_le_mul_of_nonneg_right h1 (by omega)
      have e1 : k * (b - a) = -(k * (a - b)) := by rw [← Int.mul_neg, Int.neg_sub]
      have e2 : n * (b - a) = -(n * (a - b)) := by rw [← Int.mul_neg, Int.neg_sub]
      have l1 := near_ge (k * (b - a)) n (b - a) hn (by omega)
      have l2 := near_le (k * (b - a)) n 0 hn (by omega)
      omega
  unfold pt1
  rw [w16 (by omega) (by omega)]
  exact H
theorem pt1_n (a b n : Int) (ha : 0 ≤ a ∧ a ≤ 63) (hb : 0 ≤ b ∧ b ≤ 63) (hn : 0 < n) : pt1 a b n n = b := by
  have l1 := near_ge (n * (b - a)) n (b - a) hn (Int.le_refl _)
  have l2 := near_le (n * (b - a)) n (b - a) hn (Int.le_refl _)
  unfold pt1
  rw [w16 (by omega) (by omega)]
  omega
theorem lineL_ok {a0 a1 b0 b1 : Int} (ha : MarkOk a0 a1) (hb : MarkOk b0 b1) : ∀ m ∈ lineL a0 a1 b0 b1, MarkOk m.f0 m.f1 := by
  intro m hm
  have hf := farM_b ha hb
  unfold lineL at hm
  obtain ⟨k, hk, rfl⟩ := List.mem_map.1 hm
  have hk := List.mem_range.1 hk
  by_cases c : farM a0 a1 b0 b1 = 0
  · rw [if_pos c]; exact ha
  · rw [if_neg c]
    exact ⟨pt1_b a0 b0 _ _ ha.1 hb.1 (by omega) (by omega) (by omega), pt1_b a1 b1 _ _ ha.2 hb.2 (by omega) (by omega) (by omega)⟩
theorem far_0 {a0 a1 b0 b1 : Int} (h : farM a0 a1 b0 b1 = 0) : a0 = b0 ∧ a1 = b1 := by
  unfold farM mx sz at h
  split at h <;> split at h <;> split at h <;> omega
theorem far_s (a0 a1 : Int) : farM a0 a1 a0 a1 = 0 := by
  unfold farM; rw [Int.sub_self, Int.sub_self]; rfl
theorem lineL_s (a0 a1 : Int) : lineL a0 a1 a0 a1 = [⟨a0, a1⟩] := by
  unfold lineL; rw [far_s]; rfl
theorem lineL_last {a0 a1 b0 b1 : Int} (ha : MarkOk a0 a1) (hb : MarkOk b0 b1) : ∃ L, lineL a0 a1 b0 b1 = L ++ [⟨b0, b1⟩] ∧ ∀ m ∈ L, MarkOk m.f0 m.f1 := by
  have hok := lineL_ok ha hb
  have hf := farM_b ha hb
  have e : lineL a0 a1 b0 b1 = ((List.range (farM a0 a1 b0 b1).toNat).map fun k : Nat => if farM a0 a1 b0 b1 = 0 then (⟨a0, a1⟩ : S60) else ptM a0 a1 b0 b1 (farM a0 a1 b0 b1) (k : Int)) ++ [⟨b0, b1⟩] := by
    unfold lineL
    rw [List.range_succ, List.map_append]
    congr 1
    simp only [List.map_cons, List.map_nil]
    by_cases c : farM a0 a1 b0 b1 = 0
    · rw [if_pos c]
      obtain ⟨rfl, rfl⟩ := far_0 c
      rfl
    · rw [if_neg c]
      unfold ptM
      rw [Int.toNat_of_nonneg hf.1, pt1_n a0 b0 _ ha.1 hb.1 (by omega), pt1_n a1 b1 _ ha.2 hb.2 (by omega)]
  exact ⟨_, e, fun m hm => hok m (by rw [e]; exact List.mem_append_left _ hm)⟩
/-- A mark that the line gives ink to at its end may have ink before. -/
theorem ink_line (x : List Int) (hx : x.length = 64) {a0 a1 b0 b1 : Int} (ha : MarkOk a0 a1) (hb : MarkOk b0 b1) : inkL (ink1 x ⟨b0, b1⟩) (lineL a0 a1 b0 b1) = inkL x (lineL a0 a1 b0 b1) := by
  obtain ⟨L, e, hL⟩ := lineL_last ha hb
  have hm : MarkOk (⟨b0, b1⟩ : S60).f0 (⟨b0, b1⟩ : S60).f1 := hb
  rw [e, inkL_app, inkL_app, inkL_swap _ hm L x hx hL]
  show ink1 (ink1 (inkL x L) ⟨b0, b1⟩) ⟨b0, b1⟩ = ink1 (inkL x L) ⟨b0, b1⟩
  exact ink_twice _ (by rw [inkL_len]; exact hx) _ hm
theorem rdM_ok (L : List S60) (j : Nat) (h : j < L.length) : rd_T60 L (j : Int) = L[j] := by
  unfold rd_T60; rw [Int.toNat_natCast, List.getD_eq_getElem?_getD, List.getElem?_eq_getElem h]; rfl
theorem wu64 {x : Int} (h0 : 0 ≤ x) (h1 : x ≤ 63) : IntKind.u64.wrap x = x := by
  unfold IntKind.wrap IntKind.bits IntKind.signed; simp; omega
theorem inkL_take (x : List Int) (L : List S60) (j : Nat) (h : j < L.length) : inkL x (L.take (j + 1)) = ink1 (inkL x (L.take j)) L[j] := by
  rw [List.take_add_one, List.getElem?_eq_getElem h, inkL_app]; rfl
theorem e_spec_l07Ink (x : List Int) (hx : x.length = 64) {a0 a1 b0 b1 : Int} (ha : MarkOk a0 a1) (hb : MarkOk b0 b1) : Ev (fun k => spec_l07Ink.f k x a0 a1 b0 b1) (inkL x (lineL a0 a1 b0 b1)) := by
  unfold spec_l07Ink.f
  refine Ev.bind (e_spec_l07Line ha hb) ?_
  have hok := lineL_ok ha hb
  have hlen : (lineL a0 a1 b0 b1).length ≤ 64 := by have := farM_b ha hb; rw [lineL_len]; omega
  generalize lineL a0 a1 b0 b1 = L at hok hlen ⊢
  have := ev_loop (fun k j => spec_l07Ink.l0 k L (L.length : Int) (j : Int) (inkL x (L.take j))) L.length (inkL x L) ?_ ?_
  · exact this
  · intro j hj ih
    refine evs ?_
    obtain ⟨o1, o2⟩ := hok L[j] (List.getElem_mem hj)
    have hl : (inkL x (L.take j)).length = 64 := by rw [inkL_len]; exact hx
    rw [inkL_take x L j hj] at ih
    unfold ink1 at ih
    simp (disch := omega) only [spec_l07Ink.l0, if_pos, rdM_ok L j hj, spec_inked.f, wu64, Option.bind_some, w64]
    exact ih
  · refine evs ?_
    simp (disch := omega) only [spec_l07Ink.l0, if_neg, List.take_length]
    exact evo rfl
theorem e_impl_Plate_line (x : List Int) (hx : x.length = 64) {a0 a1 b0 b1 : Int} (ha : MarkOk a0 a1) (hb : MarkOk b0 b1) : Ev (fun k => impl_Plate_line.f k x a0 a1 b0 b1) (inkL x (lineL a0 a1 b0 b1)) := by
  unfold impl_Plate_line.f
  refine Ev.bind (e_impl_lineOf ha hb) ?_
  have hok := lineL_ok ha hb
  have hlen : (lineL a0 a1 b0 b1).length ≤ 64 := by have := farM_b ha hb; rw [lineL_len]; omega
  generalize lineL a0 a1 b0 b1 = L at hok hlen ⊢
  have := ev_loop (fun k j => impl_Plate_line.l0 k L (L.length : Int) (j : Int) (inkL x (L.take j))) L.length (inkL x L) ?_ ?_
  · exact this
  · intro j hj ih
    refine evs ?_
    obtain ⟨o1, o2⟩ := hok L[j] (List.getElem_mem hj)
    have hl : (inkL x (L.take j)).length = 64 := by rw [inkL_len]; exact hx
    rw [inkL_take x L j hj] at ih
    unfold ink1 at ih
    simp (disch := omega) only [impl_Plate_line.l0, if_pos, rdM_ok L j hj, impl_Plate_ink.f, Option.bind_some, w64]
    exact ih
  · refine evs ?_
    simp (disch := omega) only [impl_Plate_line.l0, if_neg, List.take_length]
    exact evo rfl

/-! impl_first -/
theorem e_impl_firstCode (l : List Int) (hl : l.length ≤ 10000000) : Ev (fun k => impl_firstCode.f k l) (fnz l) := by
  unfold impl_firstCode.f
  suffices H : ∀ d j, j + d = l.length → Ev (fun k => impl_firstCode.l0 k l (l.length : Int) (j : Int)) (fnz (l.drop j)) from by
    have := H l.length 0 (by omega); simpa using this
  intro d
  induction d with
  | zero =>
    intro j hj
    refine evs ?_
    simp (disch := omega) only [impl_firstCode.l0, if_neg]
    exact evo (by rw [List.drop_of_length_le (by omega)]; rfl)
  | succ d ih =>
    intro j hj
    refine evs ?_
    have hj2 : j < l.length := by omega
    simp (disch := omega) only [impl_firstCode.l0, if_pos, w64]
    have e : l.drop j = rd l (j : Int) :: l.drop (j + 1) := by
      rw [List.drop_eq_getElem_cons hj2, rd_nat]; simp [List.getD_eq_getElem?_getD, hj2]
    rw [e]; unfold fnz
    by_cases c : rd l (j : Int) = 0
    · simp only [if_pos c]; exact ih (j + 1) (by omega)
    · simp only [if_neg c]; exact evo rfl
theorem e_impl_codeIf (b : Bool) (c : Int) : impl_codeIf.f b c = some (if b = true then c else 0) := by
  unfold impl_codeIf.f; split <;> rfl

/-! find2 -/
theorem ev_find2 {ρ : Type} (L : Nat → Nat → Option ρ) (p : Nat → Bool) (n : Nat) (r1 : ρ) (r2 : Nat → ρ)
    (ht : ∀ j r, j < n → p j = true → Ev (fun k => L k (j + 1)) r → Ev (fun k => L k j) r) (hf : ∀ j, j < n → p j = false → Ev (fun k => L k j) (r2 j))
    (he : (∀ j, j < n → p j = true) → Ev (fun k => L k n) r1) : Ev (fun k => L k 0) (ff p r1 r2 n 0) := by
  suffices H : ∀ d j, j + d = n → (∀ i, i < j → p i = true) → Ev (fun k => L k j) (ff p r1 r2 d j) from H n 0 (by omega) (fun i hi => by omega)
  intro d
  induction d with
  | zero => intro j hj hp; obtain rfl : j = n := by omega
            exact he hp
  | succ d ih =>
    intro j hj hp
    unfold ff
    by_cases c : p j = true
    · rw [if_pos c]; exact ht j _ (by omega) c (ih (j + 1) (by omega) (fun i hi => by by_cases e : i = j; · rw [e]; exact c
                                                                                      · exact hp i (by omega)))
    · rw [if_neg c]; exact hf j (by omega) (by simpa using c)
theorem ff_map {ρ σ : Type} (f : ρ → σ) (p : Nat → Bool) (r1 : ρ) (r2 : Nat → ρ) (d j : Nat) : f (ff p r1 r2 d j) = ff p (f r1) (fun i => f (r2 i)) d j := by
  induction d generalizing j with
  | zero => rfl
  | succ d ih => unfold ff; split
                 · exact ih _
                 · rfl

/-! laws_marks -/
theorem e_laws_toMark (a b : Int) : Ev (fun k => laws_toMark.f k a b) (a, b) := by
  unfold laws_toMark.f
  refine evs (evs (evs ?_))
  simp (disch := omega) only [laws_toMark.l0, if_pos, if_neg, w64, if_true]
  exact evo rfl
theorem e_laws_eqMark (a b : Int) : Ev (fun k => laws_eqMark.f k a b a b) true := by
  unfold laws_eqMark.f
  refine evs (evs (evs ?_))
  simp (disch := omega) only [laws_eqMark.l0, if_pos, if_neg, w64, if_true]
  exact evo rfl
theorem rdMK (l : List S60) (j : Nat) (h : j < l.length) : rd_T60 l (j : Int) = l[j] := by
  unfold rd_T60; rw [Int.toNat_natCast, List.getD_eq_getElem?_getD, List.getElem?_eq_getElem h]; rfl
theorem rdMK_map (f : Nat → S60) (n : Nat) (i : Int) (h0 : 0 ≤ i) (h1 : i < n) : rd_T60 ((List.range n).map f) i = f i.toNat := by
  unfold rd_T60
  have : i.toNat < n := by omega
  simp [List.getD_eq_getElem?_getD, this]
def mkK (m : Int) : S60 := ⟨IntKind.i16.wrap m, IntKind.i16.wrap (m + 1)⟩
def markK (m : Int) (n : Nat) : List S60 := (List.range n).map fun j : Nat => mkK (m + 2 * (j : Int))
theorem markK_len (m : Int) (n : Nat) : (markK m n).length = n := by simp [markK]
set_option maxHeartbeats 2000000 in
set_option maxHeartbeats 2000000 in

def mkC (x : S59) : S60 := ⟨x.f0, x.f1⟩
theorem rdMI (l : List S59) (j : Nat) (h : j < l.length) : rd_T59 l (j : Int) = l[j] := by
  unfold rd_T59; rw [Int.toNat_natCast, List.getD_eq_getElem?_getD, List.getElem?_eq_getElem h]; rfl
theorem rdLI (l : List (List S59)) (j : Nat) (h : j < l.length) : rd_L2 l (j : Int) = l[j] := by
  unfold rd_L2; rw [Int.toNat_natCast, List.getD_eq_getElem?_getD, List.getElem?_eq_getElem h]; rfl
theorem rdLS (l : List (List S60)) (j : Nat) (h : j < l.length) : rd_L4 l (j : Int) = l[j] := by
  unfold rd_L4; rw [Int.toNat_natCast, List.getD_eq_getElem?_getD, List.getElem?_eq_getElem h]; rfl
theorem e_laws_szStrokeS (l : List (List S59)) (hl : l.length ≤ maxLen) (hx : ∀ x ∈ l, x.length ≤ maxLen) : ∃ r, Ev (fun k => laws_szStrokeS.f k l 1048576) r ∧ (0 ≤ r → l.length ≤ 1048576 ∧ ∀ x ∈ l, x.length ≤ 1048576) := by
  have hm : maxLen ≤ 9223372036854775807 := by decide
  unfold laws_szStrokeS.f
  rw [w64 (by omega) (by omega)]
  by_cases c : 1048576 - (l.length : Int) < 0
  · exact ⟨-1, ev_pos c (evo rfl), fun h => by omega⟩
  · have key : ∀ d j : Nat, j + d = l.length → ∀ m : Int, 0 ≤ m → m ≤ 1048576 → ∃ r, Ev (fun k => laws_szStrokeS.l0 k l m (j : Int)) r ∧ (0 ≤ r → ∀ i, j ≤ i → (h : i < l.length) → l[i].length ≤ 1048576) := by
      intro d
      induction d with
      | zero =>
        intro j hj m h0 h1
        refine ⟨m, evs ?_, fun _ i hi hi2 => by omega⟩
        simp (disch := omega) only [laws_szStrokeS.l0, if_neg]
        exact evo rfl
      | succ d ih =>
        intro j hj m h0 h1
        have hj2 : j < l.length := by omega
        have hlen := hx l[j] (List.getElem_mem hj2)
        have es : laws_szStroke.f (rd_L2 l (j : Int)) m = some (if m - (l[j].length : Int) < 0 then -1 else m - (l[j].length : Int)) := by
          rw [rdLI l j hj2]
          unfold laws_szStroke.f
          rw [w64 (by omega) (by omega)]
          by_cases q : m - (l[j].length : Int) < 0
          · simp only [if_pos q]
          · simp only [if_neg q]
        by_cases q : m - (l[j].length : Int) < 0
        · refine ⟨-1, evs ?_, fun h => by omega⟩
          simp (disch := omega) only [laws_szStrokeS.l0, if_pos]
          rw [es]
          simp (disch := omega) only [if_pos q, Option.bind_some, if_pos]
          exact evo rfl
        · obtain ⟨r, hr, hb⟩ := ih (j + 1) (by omega) (m - (l[j].length : Int)) (by omega) (by omega)
          refine ⟨r, evs ?_, fun h i hi hi2 => ?_⟩
          · simp (disch := omega) only [laws_szStrokeS.l0, if_pos, w64]
            rw [es]
            simp (disch := omega) only [if_neg q, Option.bind_some]
            exact hr
          · by_cases e : i = j
            · subst e; omega
            · exact hb h i (by omega) hi2
    obtain ⟨r, hr, hb⟩ := key l.length 0 (by omega) (1048576 - (l.length : Int)) (by omega) (by omega)
    refine ⟨r, ev_neg c hr, fun h => ⟨by omega, fun x hx' => ?_⟩⟩
    obtain ⟨i, hi, rfl⟩ := List.getElem_of_mem hx'
    exact hb h i (by omega) hi
theorem e_laws_toStroke (l : List S59) (hl : l.length ≤ 1048576) : Ev (fun k => laws_toStroke.f k l) (l.map mkC) := by
  unfold laws_toStroke.f
  simp (disch := omega) only [if_pos]
  have := ev_loop (fun k j => laws_toStroke.l0 k l ((l.map mkC).take j ++ List.replicate (l.length - j) z60) (j : Int)) l.length (l.map mkC) ?_ ?_
  · simpa using this
  · intro j hj ih
    refine evs ?_
    have e : (((l.map mkC).take j ++ List.replicate (l.length - j) z60).length : Int) = l.length := by simp; omega
    have e2 : ((l.map mkC).take j ++ List.replicate (l.length - j) z60).set ((j : Int)).toNat (mkC l[j]) = (l.map mkC).take (j + 1) ++ List.replicate (l.length - (j + 1)) z60 := by
      have e3 : l.length - j = (l.length - (j + 1)) + 1 := by omega
      rw [e3, List.replicate_succ, Int.toNat_natCast, set_app _ _ _ _ _ (by simp; omega), List.take_succ_eq_append_getElem (by simpa using hj), List.append_assoc, List.singleton_append, List.getElem_map]
    simp (disch := omega) only [laws_toStroke.l0, if_pos, rdMI l j hj, w64]
    refine Ev.bind (e_laws_toMark _ _) ?_
    simp (disch := omega) only [if_pos]
    rw [show (⟨l[j].f0, l[j].f1⟩ : S60) = mkC l[j] from rfl, e2]
    exact ih
  · refine evs ?_
    simp (disch := omega) only [laws_toStroke.l0, if_neg]
    exact evo (by simp [List.take_of_length_le])
theorem e_laws_toStrokeS (l : List (List S59)) (hl : l.length ≤ 1048576) (hx : ∀ x ∈ l, x.length ≤ 1048576) : Ev (fun k => laws_toStrokeS.f k l) (l.map (List.map mkC)) := by
  unfold laws_toStrokeS.f
  simp (disch := omega) only [if_pos]
  have := ev_loop (fun k j => laws_toStrokeS.l0 k l ((l.map (List.map mkC)).take j ++ List.replicate (l.length - j) []) (j : Int)) l.length (l.map (List.map mkC)) ?_ ?_
  · simpa using this
  · intro j hj ih
    refine evs ?_
    have e : (((l.map (List.map mkC)).take j ++ List.replicate (l.length - j) []).length : Int) = l.length := by simp; omega
    have e2 : ((l.map (List.map mkC)).take j ++ List.replicate (l.length - j) []).set ((j : Int)).toNat (l[j].map mkC) = (l.map (List.map mkC)).take (j + 1) ++ List.replicate (l.length - (j + 1)) [] := by
      have e3 : l.length - j = (l.length - (j + 1)) + 1 := by omega
      rw [e3, List.replicate_succ, Int.toNat_natCast, set_app _ _ _ _ _ (by simp; omega), List.take_succ_eq_append_getElem (by simpa using hj), List.append_assoc, List.singleton_append, List.getElem_map]
    simp (disch := omega) only [laws_toStrokeS.l0, if_pos, rdLI l j hj, w64]
    refine Ev.bind (e_laws_toStroke l[j] (hx _ (List.getElem_mem hj))) ?_
    rw [e2]
    exact ih
  · refine evs ?_
    simp (disch := omega) only [laws_toStrokeS.l0, if_neg]
    exact evo (by simp [List.take_of_length_le])
theorem e_laws_eqStroke (l : List S60) (hl : l.length ≤ 1048576) : Ev (fun k => laws_eqStroke.f k l l) true := by
  unfold laws_eqStroke.f
  simp only [if_true]
  refine ev_loop (fun k j => laws_eqStroke.l0 k l l (j : Int)) l.length true ?_ ?_
  · intro j hj ih
    refine evs ?_
    simp (disch := omega) only [laws_eqStroke.l0, if_pos, w64]
    refine Ev.bind (e_laws_eqMark _ _) ?_
    simp only [if_true]
    exact ih
  · refine evs ?_
    simp (disch := omega) only [laws_eqStroke.l0, if_neg]
    exact evo rfl
theorem e_laws_eqStrokeS (l : List (List S60)) (hl : l.length ≤ 1048576) (hx : ∀ x ∈ l, x.length ≤ 1048576) : Ev (fun k => laws_eqStrokeS.f k l l) true := by
  unfold laws_eqStrokeS.f
  simp only [if_true]
  refine ev_loop (fun k j => laws_eqStrokeS.l0 k l l (j : Int)) l.length true ?_ ?_
  · intro j hj ih
    refine evs ?_
    simp (disch := omega) only [laws_eqStrokeS.l0, if_pos, w64, rdLS l j hj]
    refine Ev.bind (e_laws_eqStroke l[j] (hx _ (List.getElem_mem hj))) ?_
    simp only [if_true]
    exact ih
  · refine evs ?_
    simp (disch := omega) only [laws_eqStrokeS.l0, if_neg]
    exact evo rfl
theorem e_laws_eqPlate (x : List Int) : Ev (fun k => laws_eqPlate.f k x x) true := by
  unfold laws_eqPlate.f
  refine ev_loop (fun k j => laws_eqPlate.l0 k (j : Int) x x) 64 true ?_ ?_
  · intro j hj ih
    refine evs ?_
    simp (disch := omega) only [laws_eqPlate.l0, if_pos, w64, if_true]
    exact ih
  · refine evs ?_
    simp (disch := omega) only [laws_eqPlate.l0, if_neg]
    exact evo rfl
/-- A stroke that can be drawn. -/
def mokB (s : List S60) (j : Nat) : Bool := decide (MarkOk (rd_T60 s (j : Int)).f0 (rd_T60 s (j : Int)).f1)
def stokB (s : List S60) : Bool := decide (1 ≤ (s.length : Int) ∧ (s.length : Int) ≤ 60) && ff (mokB s) true (fun _ => false) s.length 0
def scode (l : List (List S60)) : Int := ff (fun i : Nat => stokB (rd_L4 l (i : Int))) (if (l.length : Int) > 20 then 3 else 0) (fun _ => 1) l.length 0
/-- What is known of every stroke that comes in. -/
def StW (s : List S60) : Prop := s.length ≤ 1048576 ∧ ∀ m ∈ s, (-32768 ≤ m.f0 ∧ m.f0 ≤ 32767) ∧ (-32768 ≤ m.f1 ∧ m.f1 ≤ 32767)
theorem StW.at {s : List S60} (h : StW s) (j : Nat) (hj : j < s.length) : (-32768 ≤ (rd_T60 s (j : Int)).f0 ∧ (rd_T60 s (j : Int)).f0 ≤ 32767) ∧ (-32768 ≤ (rd_T60 s (j : Int)).f1 ∧ (rd_T60 s (j : Int)).f1 ≤ 32767) := by
  rw [rdM_ok s j hj]; exact h.2 _ (List.getElem_mem hj)
theorem stokB_e {s : List S60} (h : stokB s = true) : 1 ≤ s.length ∧ s.length ≤ 60 ∧ ∀ j, j < s.length → MarkOk (rd_T60 s (j : Int)).f0 (rd_T60 s (j : Int)).f1 := by
  unfold stokB at h
  have h1 := (Bool.and_eq_true _ _).mp h
  have h2 := of_decide_eq_true h1.1
  have h3 := h1.2
  rw [ff_all] at h3
  exact ⟨by omega, by omega, fun j hj => of_decide_eq_true (of_decide_eq_true h3 j hj)⟩
theorem e_spec_l07Strokes (l : List (List S60)) (hw : ∀ s ∈ l, StW s) (hl : l.length ≤ 1048576) : Ev (fun k => spec_l07Strokes.f k l) (scode l) := by
  unfold spec_l07Strokes.f scode
  have inner : ∀ (i : Nat) (hi : i < l.length) (j : Nat) (hj : j < l[i].length) (r : Int), (if mokB l[i] j = true then Ev (fun k => spec_l07Strokes.l1 k l (i : Int) ((j : Int) + 1)) r else r = 1) → Ev (fun k => spec_l07Strokes.l1 k l (i : Int) (j : Int)) r := by
    intro i hi j hj r h
    refine evs ?_
    have w := hw l[i] (List.getElem_mem hi)
    obtain ⟨w0, w1⟩ := w.at j hj
    have wl := w.1
    simp (disch := omega) only [spec_l07Strokes.l1, if_pos, rdLS l i hi, e_spec_l07Mark _ _ w0 w1, Option.bind_some, w64]
    by_cases c : MarkOk (rd_T60 l[i] (j : Int)).f0 (rd_T60 l[i] (j : Int)).f1
    · simp only [decide_eq_true c, if_true]
      rw [if_pos (show mokB l[i] j = true from decide_eq_true c)] at h
      exact h
    · simp only [decide_eq_false c, Bool.false_eq_true, if_false]
      rw [if_neg (show ¬ mokB l[i] j = true from by unfold mokB; rw [decide_eq_false c]; decide)] at h
      exact evo h.symm
  refine ev_find (fun k i => spec_l07Strokes.l0 k l (i : Int)) (fun i : Nat => stokB (rd_L4 l (i : Int))) l.length (if (l.length : Int) > 20 then 3 else 0) (fun _ => 1) ?_ ?_ ?_
  · intro i r hi hp ih
    rw [rdLS l i hi] at hp
    obtain ⟨s1, s2, s3⟩ := stokB_e hp
    refine evs ?_
    simp (disch := omega) only [spec_l07Strokes.l0, if_pos, rdLS l i hi, e_spec_l00In, Option.bind_some]
    rw [decide_eq_true (show (1 : Int) ≤ (l[i].length : Int) ∧ (l[i].length : Int) ≤ 60 by omega)]
    simp only [if_true]
    refine ev_loop (fun k j => spec_l07Strokes.l1 k l (i : Int) (j : Int)) l[i].length r ?_ ?_
    · intro j hj ih2
      refine inner i hi j hj r ?_
      rw [if_pos (show mokB l[i] j = true from decide_eq_true (s3 j hj))]
      exact ih2
    · refine evs ?_
      simp (disch := omega) only [spec_l07Strokes.l1, if_pos, if_neg, rdLS l i hi, w64]
      exact ih
  · intro i hi hp
    rw [rdLS l i hi] at hp
    have wl := (hw l[i] (List.getElem_mem hi)).1
    refine evs ?_
    simp (disch := omega) only [spec_l07Strokes.l0, if_pos, rdLS l i hi, e_spec_l00In, Option.bind_some]
    by_cases c : (1 : Int) ≤ (l[i].length : Int) ∧ (l[i].length : Int) ≤ 60
    · rw [decide_eq_true c]
      simp only [if_true]
      unfold stokB at hp
      rw [decide_eq_true c, Bool.true_and] at hp
      rcases ff_eq (mokB l[i]) true (fun _ => false) l[i].length with ⟨_, e⟩ | ⟨m, hm, hf, hb, _⟩
      · rw [e] at hp; cases hp
      · refine ev_loop (fun k j => spec_l07Strokes.l1 k l (i : Int) (j : Int)) m 1 ?_ ?_
        · intro j hj ih2
          refine inner i hi j (by omega) 1 ?_
          rw [if_pos (hb j hj)]
          exact ih2
        · refine inner i hi m hm 1 ?_
          rw [if_neg (by rw [hf]; decide)]
    · rw [decide_eq_false c]
      simp only [Bool.false_eq_true, if_false]
      exact evo rfl
  · refine evs ?_
    simp (disch := omega) only [spec_l07Strokes.l0, if_neg]
    by_cases c : (l.length : Int) > 20
    · simp only [if_pos c]; exact evo rfl
    · simp only [if_neg c]; exact evo rfl
theorem e_impl_c1c1 (s : List S60) (h : StW s) (j : Nat) (hj : j < s.length) : impl_strokesCode_c1_c1.f (rd_T60 s (j : Int)).f0 (rd_T60 s (j : Int)).f1 = some (!mokB s j) := by
  obtain ⟨w0, w1⟩ := h.at j hj
  unfold impl_strokesCode_c1_c1.f
  rw [e_impl_ValidMark _ _ w0 w1]
  rfl
theorem e_impl_c1 (s : List S60) (h : StW s) : Ev (fun k => impl_strokesCode_c1.f k s) (!stokB s) := by
  have hl := h.1
  unfold impl_strokesCode_c1.f stokB
  simp only [e_impl_inRange, Option.bind_some]
  by_cases c : (1 : Int) ≤ (s.length : Int) ∧ (s.length : Int) ≤ 60
  · rw [decide_eq_true c]
    simp only [if_true, Bool.true_and]
    unfold slices_ContainsFunc_at_impl_strokesCode_c1_c1.f slices_IndexFunc_at_impl_strokesCode_c1_c1.f
    have := ev_find (fun k j => slices_IndexFunc_at_impl_strokesCode_c1_c1.l0 k s (s.length : Int) (j : Int)) (mokB s) s.length (-1 : Int) (fun j => (j : Int)) ?_ ?_ ?_
    · refine Ev.bind (Ev.bind this (evo rfl)) (evo ?_)
      have e := ff_map (fun x : Int => !decide (x ≥ 0)) (mokB s) (-1 : Int) (fun j => (j : Int)) s.length 0
      have e3 : (fun i : Nat => !decide ((i : Int) ≥ 0)) = fun _ : Nat => false := by
        funext i; rw [decide_eq_true (show (i : Int) ≥ 0 by omega)]; rfl
      rw [e3] at e
      rw [show ff (mokB s) true (fun _ => false) s.length 0 = (!decide (ff (mokB s) (-1 : Int) (fun j => (j : Int)) s.length 0 ≥ 0)) from e.symm, Bool.not_not]
    · intro j r hj hp ih
      refine evs ?_
      simp (disch := omega) only [slices_IndexFunc_at_impl_strokesCode_c1_c1.l0, if_pos, w64, e_impl_c1c1 s h j hj, Option.bind_some, hp, Bool.not_true, Bool.false_eq_true, if_false]
      exact ih
    · intro j hj hp
      refine evs ?_
      simp (disch := omega) only [slices_IndexFunc_at_impl_strokesCode_c1_c1.l0, if_pos, w64, e_impl_c1c1 s h j hj, Option.bind_some, hp, Bool.not_false, if_true]
      exact evo rfl
    · refine evs ?_
      simp (disch := omega) only [slices_IndexFunc_at_impl_strokesCode_c1_c1.l0, if_neg]
      exact evo rfl
  · rw [decide_eq_false c]
    simp only [Bool.false_eq_true, if_false, Bool.false_and]
    exact evo rfl
theorem e_impl_strokesCode (l : List (List S60)) (hw : ∀ s ∈ l, StW s) (hl : l.length ≤ 1048576) : Ev (fun k => impl_strokesCode.f k l) (scode l) := by
  unfold impl_strokesCode.f slices_ContainsFunc_at_impl_strokesCode_c1.f slices_IndexFunc_at_impl_strokesCode_c1.f
  have := ev_find (fun k j => slices_IndexFunc_at_impl_strokesCode_c1.l0 k l (l.length : Int) (j : Int)) (fun i : Nat => stokB (rd_L4 l (i : Int))) l.length (-1 : Int) (fun j => (j : Int)) ?_ ?_ ?_
  · refine Ev.bind (Ev.bind this (evo rfl)) ?_
    simp only [e_impl_codeIf, Option.bind_some]
    refine Ev.bind (e_impl_firstCode _ (by simp)) (evo ?_)
    unfold scode
    rcases ff_eq (fun i : Nat => stokB (rd_L4 l (i : Int))) (-1 : Int) (fun j => (j : Int)) l.length with ⟨ha, e⟩ | ⟨m, hm, hf, hb, e⟩
    · rcases ff_eq (fun i : Nat => stokB (rd_L4 l (i : Int))) (if (l.length : Int) > 20 then (3 : Int) else 0) (fun _ => 1) l.length with ⟨_, e2⟩ | ⟨m, hm, hf, _, _⟩
      · rw [e, e2]
        by_cases c : (l.length : Int) > 20
        · rw [if_pos c]; simp [fnz, c]
        · rw [if_neg c]; simp [fnz, c]
      · rw [ha m hm] at hf; cases hf
    · rcases ff_eq (fun i : Nat => stokB (rd_L4 l (i : Int))) (if (l.length : Int) > 20 then (3 : Int) else 0) (fun _ => 1) l.length with ⟨ha, _⟩ | ⟨m2, _, _, _, e2⟩
      · rw [ha m hm] at hf; cases hf
      · rw [e, e2]
        simp [fnz]
  · intro j r hj hp ih
    refine evs ?_
    simp (disch := omega) only [slices_IndexFunc_at_impl_strokesCode_c1.l0, if_pos, w64]
    refine Ev.bind (e_impl_c1 (rd_L4 l (j : Int)) (by rw [rdLS l j hj]; exact hw _ (List.getElem_mem hj))) ?_
    rw [hp]
    exact ih
  · intro j hj hp
    refine evs ?_
    simp (disch := omega) only [slices_IndexFunc_at_impl_strokesCode_c1.l0, if_pos, w64]
    refine Ev.bind (e_impl_c1 (rd_L4 l (j : Int)) (by rw [rdLS l j hj]; exact hw _ (List.getElem_mem hj))) ?_
    rw [hp]
    exact evo rfl
  · refine evs ?_
    simp (disch := omega) only [slices_IndexFunc_at_impl_strokesCode_c1.l0, if_neg]
    exact evo rfl
/-- What a stroke's j-th mark gives ink to, from the mark before it. -/
def drawM (s : List S60) (j : Nat) (x : List Int) : List Int := inkL x (lineL (rd_T60 s ((j - 1 : Nat) : Int)).f0 (rd_T60 s ((j - 1 : Nat) : Int)).f1 (rd_T60 s (j : Int)).f0 (rd_T60 s (j : Int)).f1)
def drawS (s : List S60) : Nat → List Int → List Int
  | 0, x => x
  | j + 1, x => drawM s j (drawS s j x)
def drawL (l : List (List S60)) : Nat → List Int → List Int
  | 0, x => x
  | i + 1, x => drawS (rd_L4 l (i : Int)) (rd_L4 l (i : Int)).length (drawL l i x)
theorem drawS_len (s : List S60) (j : Nat) (x : List Int) : (drawS s j x).length = x.length := by
  induction j with
  | zero => rfl
  | succ j ih => show (drawM s j (drawS s j x)).length = _; unfold drawM; rw [inkL_len, ih]
theorem drawL_len (l : List (List S60)) (i : Nat) (x : List Int) : (drawL l i x).length = x.length := by
  induction i with
  | zero => rfl
  | succ i ih => show (drawS _ _ (drawL l i x)).length = _; rw [drawS_len, ih]
theorem scode_0 {l : List (List S60)} (h : scode l = 0) : l.length ≤ 20 ∧ ∀ i (hi : i < l.length), stokB l[i] = true := by
  unfold scode at h
  rcases ff_eq (fun i : Nat => stokB (rd_L4 l (i : Int))) (if (l.length : Int) > 20 then (3 : Int) else 0) (fun _ => 1) l.length with ⟨ha, e⟩ | ⟨m, _, _, _, e⟩
  · rw [e] at h
    refine ⟨?_, fun i hi => ?_⟩
    · by_cases c : (l.length : Int) > 20
      · rw [if_pos c] at h; omega
      · omega
    · have := ha i hi
      rw [rdLS l i hi] at this
      exact this
  · rw [e] at h; omega
theorem e_spec_DrawStrokes (l : List (List S60)) (hw : ∀ s ∈ l, StW s) (hl : l.length ≤ 1048576) : Ev (fun k => spec_DrawStrokes.f k l) (if scode l = 0 then drawL l l.length pl0_ else pl0_, scode l) := by
  unfold spec_DrawStrokes.f
  refine Ev.bind (e_spec_l07Strokes l hw hl) ?_
  by_cases c : scode l = 0
  · obtain ⟨n1, ok⟩ := scode_0 c
    rw [if_pos c]
    refine ev_pos c ?_
    simp only [plate_new.f, Option.bind_some]
    rw [c]
    have h0 : (pl0_ : List Int).length = 64 := by decide
    generalize (pl0_ : List Int) = p0 at h0 ⊢
    refine ev_loop (fun k i => spec_DrawStrokes.l0 k l (i : Int) (drawL l i p0)) l.length (drawL l l.length p0, 0) ?_ ?_
    · intro i hi ih
      obtain ⟨s1, s2, s3⟩ := stokB_e (ok i hi)
      refine evs ?_
      simp (disch := omega) only [spec_DrawStrokes.l0, if_pos]
      have hx : (drawL l i p0).length = 64 := by rw [drawL_len]; exact h0
      have ed : drawL l (i + 1) p0 = drawS l[i] l[i].length (drawL l i p0) := by show drawS (rd_L4 l (i : Int)) (rd_L4 l (i : Int)).length _ = _; rw [rdLS l i hi]
      rw [ed] at ih
      generalize drawL l i p0 = x at hx ih ⊢
      refine ev_loop (fun k j => spec_DrawStrokes.l1 k l (i : Int) (j : Int) (drawS l[i] j x)) l[i].length _ ?_ ?_
      · intro j hj ih2
        have hy : (drawS l[i] j x).length = 64 := by rw [drawS_len]; exact hx
        have e3 : drawS l[i] (j + 1) x = drawM l[i] j (drawS l[i] j x) := rfl
        rw [e3] at ih2
        generalize drawS l[i] j x = y at hy ih2 ⊢
        refine evs ?_
        simp (disch := omega) only [spec_DrawStrokes.l1, if_pos, rdLS l i hi]
        refine Ev.bind (e_spec_l07Ink y hy (s3 j hj) (s3 j hj)) ?_
        rw [lineL_s]
        by_cases c2 : (j : Int) > 0
        · have ej : wrap64 ((j : Int) - 1) = ((j - 1 : Nat) : Int) := by rw [w64 (by omega) (by omega)]; omega
          refine ev_pos c2 ?_
          rw [ej]
          refine ev_pos (by omega) (ev_pos (by omega) ?_)
          refine Ev.bind (e_spec_l07Ink _ (by rw [inkL_len]; exact hy) (s3 (j - 1) (by omega)) (s3 j hj)) ?_
          rw [w64 (by omega) (by omega)]
          rw [show inkL y [(⟨(rd_T60 l[i] (j : Int)).f0, (rd_T60 l[i] (j : Int)).f1⟩ : S60)] = ink1 y ⟨(rd_T60 l[i] (j : Int)).f0, (rd_T60 l[i] (j : Int)).f1⟩ from rfl, ink_line y hy (s3 (j - 1) (by omega)) (s3 j hj)]
          exact ih2
        · refine ev_neg c2 ?_
          rw [w64 (by omega) (by omega)]
          obtain rfl : j = 0 := by omega
          unfold drawM at ih2
          rw [show ((0 - 1 : Nat) : Int) = ((0 : Nat) : Int) from rfl, lineL_s] at ih2
          exact ih2
      · refine evs ?_
        simp (disch := omega) only [spec_DrawStrokes.l1, if_pos, if_neg, rdLS l i hi, w64]
        exact ih
    · refine evs ?_
      simp (disch := omega) only [spec_DrawStrokes.l0, if_neg]
      exact evo rfl
  · rw [if_neg c]
    exact ev_neg c (evo rfl)
theorem mx_j (j : Nat) (hj : j ≤ 100) : mx (wrap64 ((j : Int) - 1)) 0 = ((j - 1 : Nat) : Int) := by
  rw [w64 (by omega) (by omega)]
  unfold mx
  split <;> omega
theorem e_impl_DrawStrokes (l : List (List S60)) (hw : ∀ s ∈ l, StW s) (hl : l.length ≤ 1048576) : Ev (fun k => impl_DrawStrokes.f k l) (if scode l = 0 then drawL l l.length pl0_ else pl0_, scode l) := by
  unfold impl_DrawStrokes.f
  refine Ev.bind (e_impl_strokesCode l hw hl) ?_
  by_cases c : scode l = 0
  · obtain ⟨n1, ok⟩ := scode_0 c
    rw [if_pos c]
    refine ev_pos c ?_
    simp only [plate_new.f, Option.bind_some]
    rw [c]
    have h0 : (pl0_ : List Int).length = 64 := by decide
    generalize (pl0_ : List Int) = p0 at h0 ⊢
    refine ev_loop (fun k i => impl_DrawStrokes.l0 k l (l.length : Int) (i : Int) (drawL l i p0)) l.length (drawL l l.length p0, 0) ?_ ?_
    · intro i hi ih
      obtain ⟨s1, s2, s3⟩ := stokB_e (ok i hi)
      refine evs ?_
      simp (disch := omega) only [impl_DrawStrokes.l0, if_pos, rdLS l i hi]
      have hx : (drawL l i p0).length = 64 := by rw [drawL_len]; exact h0
      have ed : drawL l (i + 1) p0 = drawS l[i] l[i].length (drawL l i p0) := by show drawS (rd_L4 l (i : Int)) (rd_L4 l (i : Int)).length _ = _; rw [rdLS l i hi]
      rw [ed] at ih
      generalize drawL l i p0 = x at hx ih ⊢
      refine ev_loop (fun k j => impl_DrawStrokes.l1 k l[i] l (l.length : Int) (i : Int) l[i] (l[i].length : Int) (j : Int) (drawS l[i] j x)) l[i].length _ ?_ ?_
      · intro j hj ih2
        have hy : (drawS l[i] j x).length = 64 := by rw [drawS_len]; exact hx
        have e3 : drawS l[i] (j + 1) x = drawM l[i] j (drawS l[i] j x) := rfl
        rw [e3] at ih2
        generalize drawS l[i] j x = y at hy ih2 ⊢
        refine evs ?_
        simp only [impl_DrawStrokes.l1, mx_j j (by omega)]
        simp (disch := omega) only [if_pos]
        refine Ev.bind (e_impl_Plate_line y hy (s3 (j - 1) (by omega)) (s3 j hj)) ?_
        rw [w64 (by omega) (by omega)]
        exact ih2
      · refine evs ?_
        simp (disch := omega) only [impl_DrawStrokes.l1, if_neg, w64]
        exact ih
    · refine evs ?_
      simp (disch := omega) only [impl_DrawStrokes.l0, if_neg]
      exact evo rfl
  · rw [if_neg c]
    exact ev_neg c (evo rfl)
theorem wf_i16s {x : Int} (h : (Lit.int .i16 x).wf = true) : -32768 ≤ x ∧ x ≤ 32767 := by simpa [Lit.wf, IntKind.min, IntKind.max, IntKind.bits, IntKind.signed] using h
set_option maxHeartbeats 4000000 in
theorem FnExactDrawStrokes : ∀ (l0 : List (List (S59))), (l0.length ≤ maxLen ∧ ∀ x2 ∈ l0, (x2.length ≤ maxLen ∧ ∀ x3 ∈ x2, ((Lit.int .i16 x3.f0).wf = true ∧ (Lit.int .i16 x3.f1).wf = true))) → ∃ k, laws_FnExactDrawStrokes.f k l0 = some true := by
  rintro l ⟨hm, hx⟩
  refine ev_rounds ?_
  unfold laws_FnExactDrawStrokes.f
  obtain ⟨r, hr, hb⟩ := e_laws_szStrokeS l hm (fun x h => (hx x h).1)
  refine Ev.bind hr ?_
  by_cases c : r < 0
  · exact ev_pos c (evo rfl)
  refine ev_neg c ?_
  obtain ⟨hl, hlx⟩ := hb (by omega)
  have T := e_laws_toStrokeS l hl hlx
  have hl2 : (l.map (List.map mkC)).length ≤ 1048576 := by rw [List.length_map]; exact hl
  have hW : ∀ s ∈ (l.map (List.map mkC)), StW s := by
    intro s hs
    obtain ⟨y, hy, rfl⟩ := List.mem_map.1 hs
    refine ⟨by rw [List.length_map]; exact hlx y hy, fun m hm => ?_⟩
    obtain ⟨z, hz, rfl⟩ := List.mem_map.1 hm
    have := (hx y hy).2 z hz
    exact ⟨wf_i16s this.1, wf_i16s this.2⟩
  have A := e_spec_DrawStrokes _ hW hl2
  have B := e_impl_DrawStrokes _ hW hl2
  have Q := e_laws_eqStrokeS _ hl2 (fun s hs => (hW s hs).1)
  refine Ev.bind T (Ev.bind A (Ev.bind T (Ev.bind B ?_)))
  refine Ev.bind (e_laws_eqPlate _) (ev_pos rfl ?_)
  refine evs ?_
  simp only [laws_FnExactDrawStrokes.j0, bne_self_eq_false, Bool.false_eq_true, if_false]
  refine Ev.bind T (Ev.bind Q ?_)
  simp only [if_true]
  exact evo rfl

end Go.Proofs.Ytkgeppbjfkhjcaa.Pure
