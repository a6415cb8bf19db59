/- The pure statement of the law FnExactLineOf: the program's function and the reference's tell the same of every input, by plain lemmas on numbers, lists and rounds; no further condition. -/
import Derived.Test.YtnjcmalmnofbmaaXFnExactLineOfx
import Derived.Test.YtnjcmalmnofbmaaXLib
namespace Go.Proofs.Ytnjcmalmnofbmaa.Pure
open Go.RowKit Go.Proofs.Ytnjcmalmnofbmaa.XFnExactLineOf Go.Proofs.Ytnjcmalmnofbmaa.XLib Go.Proofs.YtnjcmalmnofbmaaW.PrintWords Go.Proofs.YtnjcmalmnofbmaaW.PrintLast Go.Proofs.YtnjcmalmnofbmaaW.PrintMore
set_option maxRecDepth 100000
set_option linter.unusedVariables false
set_option linter.unusedSimpArgs false
/-! base_spec -/
theorem e_spec_l00In (a b c : Int) : spec_l00In.f a b c = some (decide (b ≤ a ∧ a ≤ c)) := by
  unfold spec_l00In.f
  by_cases h : b ≤ a <;> simp [h]

/-! base_impl -/
theorem e_impl_inRange (a b c : Int) : impl_inRange.f a b c = some (decide (b ≤ a ∧ a ≤ c)) := by
  unfold impl_inRange.f
  by_cases h : b ≤ a <;> simp [h]

/-! markok -/
def MarkOk (a b : Int) : Prop := (0 ≤ a ∧ a ≤ 63) ∧ (0 ≤ b ∧ b ≤ 63)
instance (a b : Int) : Decidable (MarkOk a b) := by unfold MarkOk; infer_instance
theorem e_spec_l07Mark (a b : Int) (h0 : -32768 ≤ a ∧ a ≤ 32767) (h1 : -32768 ≤ b ∧ b ≤ 32767) : spec_l07Mark.f a b = some (decide (MarkOk a b)) := by
  unfold spec_l07Mark.f
  simp (disch := omega) only [w64, e_spec_l00In, Option.bind_some]
  by_cases c : 0 ≤ a ∧ a ≤ 63
  · rw [decide_eq_true c, if_pos rfl]
    exact congrArg some (decide_eq_decide.mpr ⟨fun h => ⟨c, h⟩, fun h => h.2⟩)
  · rw [decide_eq_false c, if_neg (by decide)]
    exact congrArg some (decide_eq_false fun h => c h.1).symm
theorem e_impl_ValidMark (a b : Int) (h0 : -32768 ≤ a ∧ a ≤ 32767) (h1 : -32768 ≤ b ∧ b ≤ 32767) : impl_ValidMark.f a b = some (decide (MarkOk a b)) := by
  unfold impl_ValidMark.f
  simp (disch := omega) only [w64, e_impl_inRange, Option.bind_some]
  by_cases c : 0 ≤ a ∧ a ≤ 63
  · rw [decide_eq_true c, if_pos rfl]
    exact congrArg some (decide_eq_decide.mpr ⟨fun h => ⟨c, h⟩, fun h => h.2⟩)
  · rw [decide_eq_false c, if_neg (by decide)]
    exact congrArg some (decide_eq_false fun h => c h.1).symm

/-! mx -/
theorem e_spec_l00Max' (a b : Int) : (if a > b then some a else some b) = some (mx a b) := by
  unfold mx
  by_cases h : a > b
  · rw [if_pos h, if_neg (by omega)]
  · rw [if_neg h]; by_cases h2 : a < b
    · rw [if_pos h2]
    · rw [if_neg h2, show a = b by omega]

/-! szf -/
def sz (x : Int) : Int := if x < 0 then -x else x
theorem e_size (x : Int) (h0 : -100000 ≤ x) (h1 : x ≤ 100000) : spec_l01Size.f x = some (sz x) := by
  unfold spec_l01Size.f sz
  by_cases c : x < 0
  · rw [if_pos c, if_pos c, w64 (by omega) (by omega)]
  · rw [if_neg c, if_neg c]
theorem sz_neg (x : Int) : mx x (-x) = sz x := by unfold mx sz; split <;> split <;> omega
theorem e_impl_abs2 (x : Int) (h0 : -100000 ≤ x) (h1 : x ≤ 100000) : impl_abs.f x = some (sz x) := by
  unfold impl_abs.f
  rw [w64 (by omega) (by omega), sz_neg]

/-! impl_mod -/
theorem e_impl_floorDiv (a n : Int) (h : 0 < n) (ha : -9223372036854775807 ≤ a) (hb : a ≤ 9223372036854775807) : impl_floorDiv.f a n = some (a / n) := by
  unfold impl_floorDiv.f
  have := tdiv_b a h 9223372036854775807 ha hb
  rw [if_neg (by omega), ← floor_tdiv a h]
  by_cases c : Int.tmod a n < 0
  · simp (disch := omega) only [if_pos c, w64]
  · simp (disch := omega) only [if_neg c, w64]

/-! near -/
theorem e_spec_l01Near (a b : Int) (hb : 0 < b) (hb1 : b ≤ 1000000000000000000) (h0 : -4000000000000000000 ≤ a) (h1 : a ≤ 4000000000000000000) : spec_l01Near.f a b = some (near a b) := by
  unfold spec_l01Near.f near
  have b3 := tdiv_b (2 * a + b) (n := 2 * b) (by omega) 9200000000000000000 (by omega) (by omega)
  simp (disch := omega) only [w64]
  rw [if_neg (by omega), ← floor_tdiv _ (show 0 < 2 * b by omega)]
  split <;> rfl
theorem e_impl_nearest (a b : Int) (hb : 0 < b) (hb1 : b ≤ 1000000000000000000) (h0 : -4000000000000000000 ≤ a) (h1 : a ≤ 4000000000000000000) : impl_nearest.f a b = some (near a b) := by
  unfold impl_nearest.f near
  simp (disch := omega) only [w64, e_impl_floorDiv, Option.bind_some]

/-! shp -/
/-- The shape of a motion: how far along, as a fraction. -/
def shp (c k n : Int) : Int × Int :=
  if c = 1 then (if 2 * k ≤ n then (2 * k * k, n * n) else (n * n - 2 * (n - k) * (n - k), n * n))
  else if c = 2 then (3 * k * k * n - 2 * k * k * k, n * n * n)
  else if c = 3 then (k * k * k * (10 * n * n - 15 * k * n + 6 * k * k), n * n * n * n * n)
  else (k, n)
theorem sq_b {a b A B : Int} (a0 : 0 ≤ a) (a1 : a ≤ A) (b0 : -B ≤ b) (b1 : b ≤ B) : -(A * B) ≤ a * b ∧ a * b ≤ A * B := by
  have hB : 0 ≤ B := by omega
  have h1 := Int.mul_le_mul_of_nonneg_left b1 a0
  have h2 := Int.mul_le_mul_of_nonneg_left b0 a0
  have h3 := Int.mul_le_mul_of_nonneg_right a1 hB
  rw [Int.mul_neg] at h2
  exact ⟨by omega, by omega⟩
theorem shp_b (c k n : Int) (hk : 0 ≤ k) (hkn : k ≤ n) (hn : 1 ≤ n) (hn2 : n ≤ 360) :
    (1 ≤ (shp c k n).2 ∧ (shp c k n).2 ≤ 6046617600000) ∧ -97977600000000 ≤ (shp c k n).1 ∧ (shp c k n).1 ≤ 97977600000000 := by
  have n1 := mul_b (show 0 ≤ n by omega) hn2 (show 0 ≤ n by omega) hn2
  have n2 := mul_b n1.1 n1.2 (show 0 ≤ n by omega) hn2
  have n3 := mul_b n2.1 n2.2 (show 0 ≤ n by omega) hn2
  have n4 := mul_b n3.1 n3.2 (show 0 ≤ n by omega) hn2
  have p1 := Int.mul_pos (show 0 < n by omega) (show 0 < n by omega)
  have p2 := Int.mul_pos p1 (show 0 < n by omega)
  have p3 := Int.mul_pos p2 (show 0 < n by omega)
  have p4 := Int.mul_pos p3 (show 0 < n by omega)
  have k1 := mul_b hk (show k ≤ 360 by omega) hk (show k ≤ 360 by omega)
  have k2 := mul_b k1.1 k1.2 hk (show k ≤ 360 by omega)
  have a1 := mul_b (show 0 ≤ 2 * k by omega) (show 2 * k ≤ 720 by omega) hk (show k ≤ 360 by omega)
  have a2 := mul_b (show 0 ≤ 2 * (n - k) by omega) (show 2 * (n - k) ≤ 720 by omega) (show 0 ≤ n - k by omega) (show n - k ≤ 360 by omega)
  have a3 := mul_b (show 0 ≤ 3 * k by omega) (show 3 * k ≤ 1080 by omega) hk (show k ≤ 360 by omega)
  have a4 := mul_b a3.1 a3.2 (show 0 ≤ n by omega) hn2
  have a5 := mul_b a1.1 a1.2 hk (show k ≤ 360 by omega)
  have a6 := mul_b (show 0 ≤ 10 * n by omega) (show 10 * n ≤ 3600 by omega) (show 0 ≤ n by omega) hn2
  have a7 := mul_b (show 0 ≤ 15 * k by omega) (show 15 * k ≤ 5400 by omega) (show 0 ≤ n by omega) hn2
  have a8 := mul_b (show 0 ≤ 6 * k by omega) (show 6 * k ≤ 2160 by omega) hk (show k ≤ 360 by omega)
  have a9 := sq_b (B := 2100000) k2.1 k2.2 (b := 10 * n * n - 15 * k * n + 6 * k * k) (by omega) (by omega)
  unfold shp
  split
  · split <;> (dsimp only; omega)
  · split
    · dsimp only; omega
    · split <;> (dsimp only; omega)

/-! line -/
theorem near_sm (x n : Int) (hn : 0 < n) (hn1 : n ≤ 63) (h0 : -4000 ≤ x) (h1 : x ≤ 4000) : -9000 ≤ near x n ∧ near x n ≤ 9000 := by
  unfold near
  have := ediv_b (2 * x + n) (show 0 < 2 * n by omega) 8100 (by omega) (by omega)
  omega
theorem near_0 (n : Int) (hn : 0 < n) : near 0 n = 0 := by
  unfold near; exact Int.ediv_eq_zero_of_lt (by omega) (by omega)
def farM (a0 a1 b0 b1 : Int) : Int := mx (sz (a0 - b0)) (sz (a1 - b1))
theorem farM_b {a0 a1 b0 b1 : Int} (ha : MarkOk a0 a1) (hb : MarkOk b0 b1) : 0 ≤ farM a0 a1 b0 b1 ∧ farM a0 a1 b0 b1 ≤ 63 := by
  obtain ⟨x1, x2⟩ := ha
  obtain ⟨y1, y2⟩ := hb
  have p : 0 ≤ sz (a0 - b0) ∧ sz (a0 - b0) ≤ 63 := by unfold sz; split <;> omega
  have q : 0 ≤ sz (a1 - b1) ∧ sz (a1 - b1) ≤ 63 := by unfold sz; split <;> omega
  unfold farM mx; split <;> omega
theorem e_spec_l07Far {a0 a1 b0 b1 : Int} (ha : MarkOk a0 a1) (hb : MarkOk b0 b1) : spec_l07Far.f a0 a1 b0 b1 = some (farM a0 a1 b0 b1) := by
  obtain ⟨x1, x2⟩ := ha
  obtain ⟨y1, y2⟩ := hb
  unfold spec_l07Far.f farM
  simp (disch := omega) only [w64, e_size, Option.bind_some]
  unfold spec_l00Max.f
  rw [e_spec_l00Max']; rfl
theorem sz_sym (x y : Int) : sz (x - y) = sz (y - x) := by unfold sz; split <;> split <;> omega
theorem e_impl_between {a0 a1 b0 b1 : Int} (ha : MarkOk a0 a1) (hb : MarkOk b0 b1) : impl_between.f a0 a1 b0 b1 = some (farM a0 a1 b0 b1) := by
  obtain ⟨x1, x2⟩ := ha
  obtain ⟨y1, y2⟩ := hb
  unfold impl_between.f impl_abs.f farM
  simp (disch := omega) only [w64, Option.bind_some]
  rw [sz_neg, sz_neg, sz_sym b0 a0, sz_sym b1 a1]
def pt1 (a b n k : Int) : Int := IntKind.i16.wrap (a + near (k * (b - a)) n)
def ptM (a0 a1 b0 b1 n k : Int) : S74 := ⟨pt1 a0 b0 n k, pt1 a1 b1 n k⟩
def lineL (a0 a1 b0 b1 : Int) : List S74 := (List.range ((farM a0 a1 b0 b1).toNat + 1)).map fun k : Nat => if farM a0 a1 b0 b1 = 0 then ⟨a0, a1⟩ else ptM a0 a1 b0 b1 (farM a0 a1 b0 b1) (k : Int)
theorem lineL_len (a0 a1 b0 b1 : Int) : (lineL a0 a1 b0 b1).length = (farM a0 a1 b0 b1).toNat + 1 := by simp [lineL]
theorem pt1_0 (a b n : Int) (hn : 0 < n) (h0 : 0 ≤ a) (h1 : a ≤ 63) : pt1 a b n 0 = a := by
  unfold pt1; rw [Int.zero_mul, near_0 n hn, Int.add_zero, w16 (by omega) (by omega)]
theorem e_spec_l07Line {a0 a1 b0 b1 : Int} (ha : MarkOk a0 a1) (hb : MarkOk b0 b1) : Ev (fun k => spec_l07Line.f k a0 a1 b0 b1) (lineL a0 a1 b0 b1) := by
  unfold spec_l07Line.f
  rw [e_spec_l07Far ha hb]
  have hf := farM_b ha hb
  simp only [Option.bind_some]
  by_cases c : farM a0 a1 b0 b1 = 0
  · simp only [if_pos c]
    unfold lineL
    rw [c]
    exact evo rfl
  · simp only [if_neg c]
    have hL : lineL a0 a1 b0 b1 = (List.range ((farM a0 a1 b0 b1).toNat + 1)).map fun k : Nat => ptM a0 a1 b0 b1 (farM a0 a1 b0 b1) (k : Int) := by
      unfold lineL; simp only [if_neg c]
    rw [hL]
    generalize farM a0 a1 b0 b1 = n at *
    obtain ⟨x1, x2⟩ := ha
    obtain ⟨y1, y2⟩ := hb
    have := ev_loop (fun k j => spec_l07Line.l0 k n ((List.range j).map fun k : Nat => ptM a0 a1 b0 b1 n (k : Int)) (j : Int) a0 a1 b0 b1) (n.toNat + 1) ((List.range (n.toNat + 1)).map fun k : Nat => ptM a0 a1 b0 b1 n (k : Int)) ?_ ?_
    · exact this
    · intro j hj ih
      refine evs (evs (evs (evs ?_)))
      have e : ((List.range j).map fun k : Nat => ptM a0 a1 b0 b1 n (k : Int)).length = j := map_len _ _
      have p0 := sq_b (A := 63) (B := 63) (show (0 : Int) ≤ (j : Int) by omega) (by omega) (show -63 ≤ b0 - a0 by omega) (by omega)
      have p1 := sq_b (A := 63) (B := 63) (show (0 : Int) ≤ (j : Int) by omega) (by omega) (show -63 ≤ b1 - a1 by omega) (by omega)
      have q0 := near_sm ((j : Int) * (b0 - a0)) n (by omega) (by omega) (by omega) (by omega)
      have q1 := near_sm ((j : Int) * (b1 - a1)) n (by omega) (by omega) (by omega) (by omega)
      simp (disch := omega) only [spec_l07Line.l0, spec_l07Line.l1, if_pos, if_neg, if_true, w64, e_spec_l01Near, Option.bind_some, e]
      rw [show (⟨IntKind.i16.wrap (a0 + near ((j : Int) * (b0 - a0)) n), IntKind.i16.wrap (a1 + near ((j : Int) * (b1 - a1)) n)⟩ : S74) = ptM a0 a1 b0 b1 n (j : Int) from rfl, ← map_snoc (fun k : Nat => ptM a0 a1 b0 b1 n (k : Int))]
      exact ih
    · refine evs ?_
      simp (disch := omega) only [spec_l07Line.l0, if_neg]
      exact evo rfl
theorem e_impl_lineOf {a0 a1 b0 b1 : Int} (ha : MarkOk a0 a1) (hb : MarkOk b0 b1) : Ev (fun k => impl_lineOf.f k a0 a1 b0 b1) (lineL a0 a1 b0 b1) := by
  unfold impl_lineOf.f
  rw [e_impl_between ha hb]
  have hf := farM_b ha hb
  simp only [Option.bind_some]
  by_cases c : farM a0 a1 b0 b1 = 0
  · unfold lineL
    rw [c]
    refine evs ?_
    simp (disch := omega) only [impl_lineOf.l0, if_neg]
    exact evo rfl
  · have hL : lineL a0 a1 b0 b1 = (List.range ((farM a0 a1 b0 b1).toNat + 1)).map fun k : Nat => ptM a0 a1 b0 b1 (farM a0 a1 b0 b1) (k : Int) := by
      unfold lineL; simp only [if_neg c]
    rw [hL]
    generalize farM a0 a1 b0 b1 = n at *
    obtain ⟨x1, x2⟩ := ha
    obtain ⟨y1, y2⟩ := hb
    have := ev_loop (fun k j => impl_lineOf.l0 k ((List.range (j + 1)).map fun k : Nat => ptM a0 a1 b0 b1 n (k : Int)) n ((j : Int) + 1) a0 a1 b0 b1) n.toNat ((List.range (n.toNat + 1)).map fun k : Nat => ptM a0 a1 b0 b1 n (k : Int)) ?_ ?_
    · have e0 : (⟨a0, a1⟩ : S74) = ptM a0 a1 b0 b1 n 0 := by
        unfold ptM; rw [pt1_0 a0 b0 n (by omega) x1.1 x1.2, pt1_0 a1 b1 n (by omega) x2.1 x2.2]
      rw [e0]
      exact this
    · intro j hj ih
      refine evs (evs (evs (evs ?_)))
      have e : ((List.range (j + 1)).map fun k : Nat => ptM a0 a1 b0 b1 n (k : Int)).length = j + 1 := map_len _ _
      have p0 := sq_b (A := 63) (B := 63) (show (0 : Int) ≤ (j : Int) + 1 by omega) (by omega) (show -63 ≤ b0 - a0 by omega) (by omega)
      have p1 := sq_b (A := 63) (B := 63) (show (0 : Int) ≤ (j : Int) + 1 by omega) (by omega) (show -63 ≤ b1 - a1 by omega) (by omega)
      have m0 := mul_b (A := 63) (B := 63) x1.1 x1.2 (show 0 ≤ n by omega) (by omega)
      have m1 := mul_b (A := 63) (B := 63) x2.1 x2.2 (show 0 ≤ n by omega) (by omega)
      simp (disch := omega) only [impl_lineOf.l0, impl_lineOf.l1, if_pos, if_neg, if_true, w64, e_impl_nearest, Option.bind_some, e]
      rw [near_add a0 _ (show 0 < n by omega), near_add a1 _ (show 0 < n by omega)]
      rw [show (⟨IntKind.i16.wrap (a0 + near (((j : Int) + 1) * (b0 - a0)) n), IntKind.i16.wrap (a1 + near (((j : Int) + 1) * (b1 - a1)) n)⟩ : S74) = ptM a0 a1 b0 b1 n ((j + 1 : Nat) : Int) from rfl, ← map_snoc (fun k : Nat => ptM a0 a1 b0 b1 n (k : Int))]
      exact ih
    · refine evs ?_
      simp (disch := omega) only [impl_lineOf.l0, if_neg]
      exact evo rfl

/-! laws_marks -/
theorem e_laws_toMark (a b : Int) : Ev (fun k => laws_toMark.f k a b) (a, b) := by
  unfold laws_toMark.f
  refine evs (evs (evs ?_))
  simp (disch := omega) only [laws_toMark.l0, if_pos, if_neg, w64, if_true]
  exact evo rfl
theorem e_laws_eqMark (a b : Int) : Ev (fun k => laws_eqMark.f k a b a b) true := by
  unfold laws_eqMark.f
  refine evs (evs (evs ?_))
  simp (disch := omega) only [laws_eqMark.l0, if_pos, if_neg, w64, if_true]
  exact evo rfl
theorem e_laws_eqMarkS (l : List S74) (hl : l.length ≤ 1048576) : Ev (fun k => laws_eqMarkS.f k l l) true := by
  unfold laws_eqMarkS.f
  simp only [if_true]
  have := ev_loop (fun k j => laws_eqMarkS.l0 k l l (j : Int)) l.length true ?_ ?_
  · exact this
  · intro j hj ih
    refine evs ?_
    simp (disch := omega) only [laws_eqMarkS.l0, if_pos, w64]
    refine Ev.bind (e_laws_eqMark _ _) ?_
    simp only [if_true]
    exact ih
  · refine evs ?_
    simp (disch := omega) only [laws_eqMarkS.l0, if_neg]
    exact evo rfl
theorem rdMK (l : List S74) (j : Nat) (h : j < l.length) : rd_T74 l (j : Int) = l[j] := by
  unfold rd_T74; rw [Int.toNat_natCast, List.getD_eq_getElem?_getD, List.getElem?_eq_getElem h]; rfl
theorem rdMK_map (f : Nat → S74) (n : Nat) (i : Int) (h0 : 0 ≤ i) (h1 : i < n) : rd_T74 ((List.range n).map f) i = f i.toNat := by
  unfold rd_T74
  have : i.toNat < n := by omega
  simp [List.getD_eq_getElem?_getD, this]
def mkK (m : Int) : S74 := ⟨IntKind.i16.wrap m, IntKind.i16.wrap (m + 1)⟩
def markK (m : Int) (n : Nat) : List S74 := (List.range n).map fun j : Nat => mkK (m + 2 * (j : Int))
theorem markK_len (m : Int) (n : Nat) : (markK m n).length = n := by simp [markK]
set_option maxHeartbeats 2000000 in
theorem e_laws_markMarkS (l : List S74) (hl : l.length ≤ 1048576) (m : Int) (h0 : 0 ≤ m) (h1 : m ≤ 1000000000) : Ev (fun k => laws_markMarkS.f k l m) (m + 2 * (l.length : Int), markK m l.length) := by
  unfold laws_markMarkS.f
  have := ev_loop (fun k j => laws_markMarkS.l0 k (markK m j ++ l.drop j) (m + 2 * (j : Int)) (j : Int)) l.length (m + 2 * (l.length : Int), markK m l.length) ?_ ?_
  · simpa [markK] using this
  · intro j hj ih
    refine evs ?_
    have er0 : ∀ x : S74, rd_T74 (markK m j ++ x :: l.drop (j + 1)) (j : Int) = x := by
      intro x; rw [rdMK _ _ (by simp [markK_len]), List.getElem_append_right (by rw [markK_len]; omega)]; simp [markK_len]
    have ej : ∀ x : S74, (markK m j ++ l.drop j).set j x = markK m j ++ x :: l.drop (j + 1) := by
      intro x; rw [List.drop_eq_getElem_cons hj, set_app _ _ _ _ _ (markK_len _ _)]
    have ej2 : ∀ x y : S74, (markK m j ++ x :: l.drop (j + 1)).set j y = markK m j ++ y :: l.drop (j + 1) := by
      intro x y; rw [set_app _ _ _ _ _ (markK_len _ _)]
    have er : ∀ x : S74, rd_T74 (markK m j ++ x :: l.drop (j + 1)) (j : Int) = x := by
      intro x; rw [rdMK _ _ (by simp [markK_len]), List.getElem_append_right (by rw [markK_len]; omega)]; simp [markK_len]
    have e : ((markK m j ++ l.drop j).length : Int) = l.length := by simp [markK_len]; omega
    have e3 : ∀ x : S74, ((markK m j ++ x :: l.drop (j + 1)).length : Int) = l.length := by intro x; simp [markK_len]; omega
    simp (disch := omega) only [laws_markMarkS.l0, if_pos, e]
    refine evs ?_
    simp (disch := omega) only [laws_markMarkS.l1, if_pos, e, Int.toNat_natCast, ej, er, w64, if_true, Int.zero_add]
    refine evs ?_
    simp (disch := omega) only [laws_markMarkS.l1, if_pos, if_neg, e3, Int.toNat_natCast, ej2, er, w64, if_true]
    refine evs ?_
    simp (disch := omega) only [laws_markMarkS.l1, if_pos, if_neg, e3, Int.toNat_natCast, ej2, er, w64]
    have e5 : markK m j ++ mkK (m + 2 * (j : Int)) :: l.drop (j + 1) = markK m (j + 1) ++ l.drop (j + 1) := by
      unfold markK; rw [map_snoc]; simp
    rw [show (⟨IntKind.i16.wrap (m + 2 * (j : Int)), IntKind.i16.wrap (m + 2 * (j : Int) + 1)⟩ : S74) = mkK (m + 2 * (j : Int)) from rfl, e5, show m + 2 * (j : Int) + 1 + 1 = m + 2 * ((j + 1 : Nat) : Int) by omega]
    exact ih
  · refine evs ?_
    have e : ((markK m l.length ++ l.drop l.length).length : Int) = l.length := by simp [markK_len]
    simp (disch := omega) only [laws_markMarkS.l0, if_neg, e]
    exact evo (by simp)
set_option maxHeartbeats 2000000 in
theorem e_laws_heldMarkS (n : Nat) (hl : n ≤ 1048576) (m : Int) (h0 : 0 ≤ m) (h1 : m ≤ 1000000000) : Ev (fun k => laws_heldMarkS.f k (markK m n) m) (m + 2 * (n : Int)) := by
  unfold laws_heldMarkS.f
  have e : ((markK m n).length : Int) = n := by rw [markK_len]
  have := ev_loop (fun k j => laws_heldMarkS.l0 k (markK m n) (m + 2 * (j : Int)) (j : Int)) n (m + 2 * (n : Int)) ?_ ?_
  · simpa using this
  · intro j hj ih
    refine evs ?_
    have e2 : rd_T74 (markK m n) (j : Int) = ⟨IntKind.i16.wrap (m + 2 * (j : Int)), IntKind.i16.wrap (m + 2 * (j : Int) + 1)⟩ := by
      unfold markK; rw [rdMK_map _ _ _ (by omega) (by omega)]; simp [mkK]
    simp (disch := omega) only [laws_heldMarkS.l0, if_pos, e]
    refine evs ?_
    simp (disch := omega) only [laws_heldMarkS.l1, if_pos, e, e2, w64, if_true, Int.zero_add]
    refine evs ?_
    simp (disch := omega) only [laws_heldMarkS.l1, if_pos, if_neg, e, e2, w64, if_true]
    refine evs ?_
    simp (disch := omega) only [laws_heldMarkS.l1, if_pos, if_neg, e, e2, w64, bne_self_eq_false, Bool.false_eq_true, if_false]
    rw [show m + 2 * (j : Int) + 1 + 1 = m + 2 * ((j + 1 : Nat) : Int) by omega]
    exact ih
  · refine evs ?_
    simp (disch := omega) only [laws_heldMarkS.l0, if_neg, e]
    exact evo rfl

def loR (a0 a1 b0 b1 : Int) : List S74 × Int := if MarkOk a0 a1 ∧ MarkOk b0 b1 then (lineL a0 a1 b0 b1, 0) else ([], 1)
theorem loR_len (a0 a1 b0 b1 : Int) : (loR a0 a1 b0 b1).1.length ≤ 1048576 := by
  unfold loR
  split
  · next h => have := farM_b h.1 h.2; simp only [lineL_len]; omega
  · exact Nat.zero_le _
theorem e_spec_LineOf (a0 a1 b0 b1 : Int) (i0 : -32768 ≤ a0 ∧ a0 ≤ 32767) (i1 : -32768 ≤ a1 ∧ a1 ≤ 32767) (i2 : -32768 ≤ b0 ∧ b0 ≤ 32767) (i3 : -32768 ≤ b1 ∧ b1 ≤ 32767) : Ev (fun k => spec_LineOf.f k a0 a1 b0 b1) (loR a0 a1 b0 b1) := by
  unfold spec_LineOf.f loR
  rw [e_spec_l07Mark a0 a1 i0 i1, e_spec_l07Mark b0 b1 i2 i3]
  simp only [Option.bind_some]
  by_cases h : MarkOk a0 a1
  · by_cases g : MarkOk b0 b1
    · simp only [h, g, and_self, decide_true, if_true]
      exact Ev.bind (e_spec_l07Line h g) (evo rfl)
    · simp only [h, g, and_false, decide_true, decide_false, if_true, Bool.false_eq_true, if_false]
      exact evo rfl
  · simp only [h, false_and, decide_false, Bool.false_eq_true, if_false]
    exact evo rfl
theorem e_impl_LineOf (a0 a1 b0 b1 : Int) (i0 : -32768 ≤ a0 ∧ a0 ≤ 32767) (i1 : -32768 ≤ a1 ∧ a1 ≤ 32767) (i2 : -32768 ≤ b0 ∧ b0 ≤ 32767) (i3 : -32768 ≤ b1 ∧ b1 ≤ 32767) : Ev (fun k => impl_LineOf.f k a0 a1 b0 b1) (loR a0 a1 b0 b1) := by
  unfold impl_LineOf.f loR
  rw [e_impl_ValidMark a0 a1 i0 i1, e_impl_ValidMark b0 b1 i2 i3]
  simp only [Option.bind_some]
  by_cases h : MarkOk a0 a1
  · by_cases g : MarkOk b0 b1
    · simp only [h, g, and_self, decide_true, if_true]
      exact Ev.bind (e_impl_lineOf h g) (evo rfl)
    · simp only [h, g, and_false, decide_true, decide_false, if_true, Bool.false_eq_true, if_false]
      exact evo rfl
  · simp only [h, false_and, decide_false, Bool.false_eq_true, if_false]
    exact evo rfl
theorem wf_i16q {x : Int} (h : (Lit.int .i16 x).wf = true) : -32768 ≤ x ∧ x ≤ 32767 := by simpa [Lit.wf, IntKind.min, IntKind.max, IntKind.bits, IntKind.signed] using h
set_option maxHeartbeats 4000000 in
theorem FnExactLineOf : ∀ (a0_0 : Int) (a0_1 : Int) (a1_0 : Int) (a1_1 : Int), (Lit.int .i16 a0_0).wf = true → (Lit.int .i16 a0_1).wf = true → (Lit.int .i16 a1_0).wf = true → (Lit.int .i16 a1_1).wf = true → ∃ k, laws_FnExactLineOf.f k a0_0 a0_1 a1_0 a1_1 = some true := by
  rintro a0_0 a0_1 a1_0 a1_1 v0 v1 v2 v3
  refine ev_rounds ?_
  unfold laws_FnExactLineOf.f
  have T := e_laws_toMark a0_0 a0_1
  have T2 := e_laws_toMark a1_0 a1_1
  have A := e_spec_LineOf a0_0 a0_1 a1_0 a1_1 (wf_i16q v0) (wf_i16q v1) (wf_i16q v2) (wf_i16q v3)
  have B := e_impl_LineOf a0_0 a0_1 a1_0 a1_1 (wf_i16q v0) (wf_i16q v1) (wf_i16q v2) (wf_i16q v3)
  have hr := loR_len a0_0 a0_1 a1_0 a1_1
  revert A B hr
  generalize loR a0_0 a0_1 a1_0 a1_1 = RR
  obtain ⟨r, c⟩ := RR
  intro A B hr
  have QR := e_laws_eqMarkS r hr
  have MR := e_laws_markMarkS r hr
  have HR := e_laws_heldMarkS r.length hr
  repeat (first | exact evo rfl | (with_reducible refine Ev.bind QR ?_) | ((with_reducible refine Ev.bind (MR 1 ?s1 ?s2) ?_); (case s1 => omega); (case s2 => omega)) | ((with_reducible refine Ev.bind (HR 1 ?s1 ?s2) ?_); (case s1 => omega); (case s2 => omega)) | (with_reducible refine Ev.bind T ?_) | (with_reducible refine Ev.bind T2 ?_) | (with_reducible refine Ev.bind A ?_) | (with_reducible refine Ev.bind B ?_) | ((with_reducible refine ev_pos ?s1 ?_); (case s1 => first | rfl | trivial | omega | (dsimp only; omega))) | ((with_reducible refine ev_neg ?s1 ?_); (case s1 => first | omega | (dsimp only; omega) | (simp; done))) | (refine evs ?_; simp only [laws_FnExactLineOf.j0, laws_FnExactLineOf.j1]))

end Go.Proofs.Ytnjcmalmnofbmaa.Pure
