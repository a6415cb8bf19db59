/- The pure statement of the law FnEvents: the program's function and the reference's tell the same of every input, by plain lemmas on numbers, lists and rounds; no further condition. -/
import Derived.Test.YtlabebaahlbkhaaXFnEventsx10
import Derived.Test.YtlabebaahlbkhaaXLib
namespace Go.Proofs.Ytlabebaahlbkhaa.Pure
open Go.RowKit Go.Proofs.Ytlabebaahlbkhaa.XFnEvents Go.Proofs.Ytlabebaahlbkhaa.XLib Go.Proofs.YtlabebaahlbkhaaW.PrintWords Go.Proofs.YtlabebaahlbkhaaW.PrintLast Go.Proofs.YtlabebaahlbkhaaW.PrintMore
set_option maxRecDepth 100000
set_option linter.unusedVariables false
set_option linter.unusedSimpArgs false
/-! base_spec -/
theorem e_spec_l00In (a b c : Int) : spec_l00In.f a b c = some (decide (b ≤ a ∧ a ≤ c)) := by
  unfold spec_l00In.f
  by_cases h : b ≤ a <;> simp [h]
theorem e_spec_l01Steps (a : Int) : spec_l01Steps.f a = some (decide (8 ≤ a ∧ a ≤ 360)) := by
  unfold spec_l01Steps.f; rw [e_spec_l00In]; rfl
theorem e_spec_l01Lift (a : Int) : spec_l01Lift.f a = some (decide (0 ≤ a ∧ a ≤ 10000)) := by
  unfold spec_l01Lift.f; rw [e_spec_l00In]; rfl
theorem e_spec_l01Ok (l : List Int) (h16 : I16 l) (hl : l.length ≤ 1048576) : Ev (fun k => spec_l01Ok.f k l) (decide (Valid l)) := by
  unfold spec_l01Ok.f
  simp only [e_spec_l01Steps, Option.bind_some]
  by_cases h : 8 ≤ (l.length : Int) ∧ (l.length : Int) ≤ 360
  · simp only [h, and_self, decide_true, if_true]
    have := ev_find (fun k j => spec_l01Ok.l0 k l (j : Int)) (fun j => decide (0 ≤ rd l (j : Int) ∧ rd l (j : Int) ≤ 10000)) l.length true (fun _ => false) ?_ ?_ ?_
    · rw [ff_all] at this
      refine eve this ?_
      apply decide_eq_decide.mpr
      unfold Valid
      constructor
      · intro hh; exact ⟨by omega, by omega, fun j hj => by simpa using hh j hj⟩
      · intro hh j hj; simpa using hh.2.2 j hj
    · intro j r hj hp ih
      refine evs ?_
      have hb := h16.rdb (j : Int)
      simp (disch := omega) only [spec_l01Ok.l0, if_pos, e_spec_l01Lift, Option.bind_some, w64]
      first | exact ih | (rw [hp]; simp only [if_true]; exact ih)
    · intro j hj hp
      refine evs ?_
      have hb := h16.rdb (j : Int)
      simp (disch := omega) only [spec_l01Ok.l0, if_pos, e_spec_l01Lift, Option.bind_some, w64]
      first | exact evo rfl | (rw [hp]; exact evo rfl)
    · refine evs ?_
      simp (disch := omega) only [spec_l01Ok.l0, if_neg]
      exact evo rfl
  · rw [decide_eq_false h]
    simp only [Bool.false_eq_true, if_false]
    exact evo (decide_eq_false (fun hv => h ⟨by have := hv.1; omega, by have := hv.2.1; omega⟩)).symm

/-! src -/
theorem bits_b (x : Int) : 0 ≤ Go.bits .and .u64 x 255 ∧ Go.bits .and .u64 x 255 ≤ 255 := by
  unfold Go.bits
  have h : ((BitVec.ofInt IntKind.u64.bits x) &&& (BitVec.ofInt IntKind.u64.bits 255)).toNat ≤ 255 := by
    rw [BitVec.toNat_and]
    exact Nat.le_trans Nat.and_le_right (by decide)
  dsimp only
  generalize ((BitVec.ofInt IntKind.u64.bits x) &&& (BitVec.ofInt IntKind.u64.bits 255)).toNat = n at h
  unfold IntKind.wrap IntKind.signed IntKind.bits
  simp
  omega
def U8 (l : List Int) : Prop := ∀ x ∈ l, 0 ≤ x ∧ x ≤ 255
theorem U8.of_wf {l : List Int} (h : ∀ x ∈ l, (Lit.int .u8 x).wf = true) : U8 l := fun x hx => by simpa [Lit.wf, IntKind.min, IntKind.max, IntKind.bits, IntKind.signed] using h x hx
theorem U8.rdb {l : List Int} (h : U8 l) (i : Int) : 0 ≤ rd l i ∧ rd l i ≤ 255 := by
  unfold rd
  rw [List.getD_eq_getElem?_getD]
  by_cases c : i.toNat < l.length
  · rw [List.getElem?_eq_getElem c]; exact h _ (List.getElem_mem c)
  · rw [List.getElem?_eq_none (by omega)]; simp
theorem e_next (l : List Int) (hu : U8 l) (hl : l.length ≤ 3000) (p : Int) (hp : 0 ≤ p ∧ p ≤ 1000000) (t : Int) : ∃ v t', spec_l00Src_next.f l p t = some (v, p + 1, t') ∧ 0 ≤ v ∧ v ≤ 255 := by
  have r := hu.rdb p
  unfold spec_l00Src_next.f
  rw [w64 (x := p + 1) (by omega) (by omega), w64 (x := rd l p) (by omega) (by omega)]
  by_cases c : p < (l.length : Int)
  · simp (disch := omega) only [if_pos]
    exact ⟨_, _, rfl, r.1, r.2⟩
  · simp (disch := omega) only [if_neg]
    rw [w64 (by have := bits_b ((IntKind.u64.wrap ((IntKind.u64.wrap ((IntKind.u64.wrap (t * 6364136223846793005)) + 0)) + 1442695040888963407)) / 1099511627776); omega) (by have := bits_b ((IntKind.u64.wrap ((IntKind.u64.wrap ((IntKind.u64.wrap (t * 6364136223846793005)) + 0)) + 1442695040888963407)) / 1099511627776); omega)]
    exact ⟨_, _, rfl, (bits_b _).1, (bits_b _).2⟩
theorem e_pick (l : List Int) (hu : U8 l) (hl : l.length ≤ 3000) (p : Int) (hp : 0 ≤ p ∧ p ≤ 1000000) (t n : Int) (hn : 1 ≤ n ∧ n ≤ 200) : ∃ v p' t', spec_l00Src_pick.f l p t n = some (v, p', t') ∧ (0 ≤ v ∧ v < n) ∧ p ≤ p' ∧ p' ≤ p + 1 := by
  unfold spec_l00Src_pick.f
  by_cases c : n ≤ 1
  · simp only [if_pos c]
    exact ⟨_, _, _, rfl, by omega, by omega, by omega⟩
  · obtain ⟨v, t', e, v0, v1⟩ := e_next l hu hl p hp t
    simp (disch := omega) only [if_neg, e, Option.bind_some]
    have b := emod_b v (show 0 < n by omega)
    refine ⟨_, _, _, rfl, ?_, by omega, by omega⟩
    rw [tmod_pos v0]
    exact b
theorem e_one (l : List Int) (hu : U8 l) (hl : l.length ≤ 3000) (p : Int) (hp : 0 ≤ p ∧ p ≤ 1000000) (t n : Int) (hn : 1 ≤ n ∧ n ≤ 200) : ∃ b p' t', spec_l00Src_one.f l p t n = some (b, p', t') ∧ p ≤ p' ∧ p' ≤ p + 1 := by
  obtain ⟨v, p', t', e, _, h⟩ := e_pick l hu hl p hp t n hn
  unfold spec_l00Src_one.f
  rw [e]
  exact ⟨_, _, _, rfl, h⟩
theorem e_camL (l : List Int) (hu : U8 l) (hl : l.length ≤ 3000) (d : Nat) : ∀ (c : List Int) (p t : Int), c.length + d ≤ 100 → 0 ≤ p → p + 2 * d ≤ 900000 → (∀ x ∈ c, 0 ≤ x ∧ x ≤ 9) → ∃ c' p' t', Ev (fun k => spec_l04Cam.l0 k c (d : Int) l p t) (c', p', t') ∧ c'.length = c.length + d ∧ (∀ x ∈ c', 0 ≤ x ∧ x ≤ 9) ∧ p ≤ p' ∧ p' ≤ p + 2 * d := by
  induction d with
  | zero =>
    intro c p t hc h0 h1 hx
    refine ⟨c, p, t, evs ?_, rfl, hx, by omega, by omega⟩
    simp (disch := omega) only [spec_l04Cam.l0, if_neg]
    exact evo rfl
  | succ d ih =>
    intro c p t hc h0 h1 hx
    obtain ⟨b, p1, t1, e1, b1⟩ := e_one l hu hl p (by omega) t 3 (by omega)
    have snoc : ∀ v : Int, 0 ≤ v → v ≤ 9 → ∀ x ∈ c ++ [v], 0 ≤ x ∧ x ≤ 9 := by
      intro v v0 v1 x hm
      rcases List.mem_append.1 hm with h | h
      · exact hx x h
      · rw [List.mem_singleton.1 h]; exact ⟨v0, v1⟩
    by_cases hb : b = true
    · obtain ⟨v, p2, t2, e2, v2, b2⟩ := e_pick l hu hl p1 (by omega) t1 10 (by omega)
      obtain ⟨c', p', t', e, hlen, hx', hp1, hp2⟩ := ih (c ++ [v]) p2 t2 (by simp; omega) (by omega) (by omega) (snoc v (by omega) (by omega))
      refine ⟨c', p', t', evs ?_, by rw [hlen]; simp; omega, hx', by omega, by omega⟩
      simp (disch := omega) only [spec_l04Cam.l0, if_pos, e1, e2, Option.bind_some, hb]
      rw [w16 (by omega) (by omega), w64 (by omega) (by omega), show ((d + 1 : Nat) : Int) - 1 = d by omega]
      exact e
    · obtain ⟨c', p', t', e, hlen, hx', hp1, hp2⟩ := ih (c ++ [0]) p1 t1 (by simp; omega) (by omega) (by omega) (snoc 0 (by omega) (by omega))
      refine ⟨c', p', t', evs ?_, by rw [hlen]; simp; omega, hx', by omega, by omega⟩
      simp (disch := omega) only [spec_l04Cam.l0, if_pos, e1, Option.bind_some]
      refine ev_neg hb ?_
      rw [w64 (by omega) (by omega), show ((d + 1 : Nat) : Int) - 1 = d by omega]
      exact e
theorem e_cam (l : List Int) (hu : U8 l) (hl : l.length ≤ 3000) (p t : Int) (h0 : 0 ≤ p) (h1 : p ≤ 800000) : ∃ c p' t', Ev (fun k => spec_l04Cam.f k l p t) (c, p', t') ∧ (8 ≤ c.length ∧ c.length ≤ 16) ∧ (∀ x ∈ c, 0 ≤ x ∧ x ≤ 9) ∧ p ≤ p' ∧ p' ≤ p + 40 := by
  obtain ⟨i, p1, t1, e1, i1, b1⟩ := e_pick l hu hl p (by omega) t 6 (by omega)
  have hv : 8 ≤ rd ([8, 8, 9, 10, 12, 16] : List Int) i ∧ rd ([8, 8, 9, 10, 12, 16] : List Int) i ≤ 16 := by
    have : i = 0 ∨ i = 1 ∨ i = 2 ∨ i = 3 ∨ i = 4 ∨ i = 5 := by omega
    rcases this with rfl | rfl | rfl | rfl | rfl | rfl <;> decide
  obtain ⟨d, hd⟩ := Int.eq_ofNat_of_zero_le (show 0 ≤ rd ([8, 8, 9, 10, 12, 16] : List Int) i by omega)
  obtain ⟨c, p', t', e, hlen, hx, b2, b3⟩ := e_camL l hu hl d [] p1 t1 (by simp; omega) (by omega) (by omega) (by simp)
  refine ⟨c, p', t', ?_, by rw [hlen]; simp; omega, hx, by omega, by omega⟩
  unfold spec_l04Cam.f spec_l00Src_among.f
  have e2 : spec_l00Src_pick.f l p t ((([8, 8, 9, 10, 12, 16] : List Int)).length : Int) = some (i, p1, t1) := e1
  simp (disch := omega) only [e2, Option.bind_some, if_pos]
  rw [if_pos (show i < ((([8, 8, 9, 10, 12, 16] : List Int)).length : Int) from i1.2)]
  simp only [Option.bind_some]
  rw [hd]
  exact e
theorem valid_of (c : List Int) (h : 8 ≤ c.length ∧ c.length ≤ 16) (hx : ∀ x ∈ c, 0 ≤ x ∧ x ≤ 9) : Valid c := by
  refine ⟨h.1, by omega, fun j hj => ?_⟩
  rw [rd_nat, List.getD_eq_getElem?_getD, List.getElem?_eq_getElem hj]
  have := hx _ (List.getElem_mem hj)
  simp only [Option.getD_some]
  omega

/-! base_impl -/
theorem e_impl_inRange (a b c : Int) : impl_inRange.f a b c = some (decide (b ≤ a ∧ a ≤ c)) := by
  unfold impl_inRange.f
  by_cases h : b ≤ a <;> simp [h]
theorem e_impl_isSteps (a : Int) : impl_isSteps.f a = some (decide (8 ≤ a ∧ a ≤ 360)) := by
  unfold impl_isSteps.f; rw [e_impl_inRange]; rfl
theorem e_impl_isLift (a : Int) : impl_isLift.f a = some (decide (0 ≤ a ∧ a ≤ 10000)) := by
  unfold impl_isLift.f; rw [e_impl_inRange]; rfl
theorem e_impl_Cam_steps (l : List Int) : impl_Cam_steps.f l = some (l.length : Int) := rfl
theorem e_impl_ValidCam (l : List Int) (h16 : I16 l) (hl : l.length ≤ 1048576) : Ev (fun k => impl_ValidCam.f k l) (decide (Valid l)) := by
  unfold impl_ValidCam.f
  simp only [e_impl_Cam_steps, e_impl_isSteps, Option.bind_some]
  by_cases h : 8 ≤ (l.length : Int) ∧ (l.length : Int) ≤ 360
  · simp only [h, and_self, decide_true, if_true]
    unfold slices_ContainsFunc_at_impl_ValidCam_c1.f slices_IndexFunc_at_impl_ValidCam_c1.f
    have := ev_find (fun k j => slices_IndexFunc_at_impl_ValidCam_c1.l0 k l (l.length : Int) (j : Int)) (fun j => decide (0 ≤ rd l (j : Int) ∧ rd l (j : Int) ≤ 10000)) l.length (-1) (fun j => (j : Int)) ?_ ?_ ?_
    · refine Ev.bind (Ev.bind this (evo rfl)) (evo ?_)
      rcases ff_eq (fun j => decide (0 ≤ rd l (j : Int) ∧ rd l (j : Int) ≤ 10000)) (-1 : Int) (fun j => (j : Int)) l.length with ⟨hh, e⟩ | ⟨m, hm, hf, _, e⟩
      · rw [e, decide_eq_true (show Valid l from ⟨by omega, by omega, fun j hj => by simpa using hh j hj⟩)]; rfl
      · rw [e, decide_eq_false (show ¬ Valid l from fun hv => by rw [decide_eq_true (hv.2.2 m hm)] at hf; cases hf)]
        simp
    · intro j r hj hp ih
      refine evs ?_
      have hb := h16.rdb (j : Int)
      simp (disch := omega) only [slices_IndexFunc_at_impl_ValidCam_c1.l0, impl_ValidCam_c1.f, if_pos, e_impl_isLift, Option.bind_some, w64]
      first | exact ih | (rw [hp]; simp only [Bool.not_true, Bool.false_eq_true, if_false]; exact ih)
    · intro j hj hp
      refine evs ?_
      have hb := h16.rdb (j : Int)
      simp (disch := omega) only [slices_IndexFunc_at_impl_ValidCam_c1.l0, impl_ValidCam_c1.f, if_pos, e_impl_isLift, Option.bind_some, w64]
      first | exact evo rfl | (rw [hp]; exact evo rfl)
    · refine evs ?_
      simp (disch := omega) only [slices_IndexFunc_at_impl_ValidCam_c1.l0, if_neg]
      exact evo rfl
  · rw [decide_eq_false h]
    simp only [Bool.false_eq_true, if_false]
    exact evo (decide_eq_false (fun hv => h ⟨by have := hv.1; omega, by have := hv.2.1; omega⟩)).symm

/-! find2 -/
theorem ev_find2 {ρ : Type} (L : Nat → Nat → Option ρ) (p : Nat → Bool) (n : Nat) (r1 : ρ) (r2 : Nat → ρ)
    (ht : ∀ j r, j < n → p j = true → Ev (fun k => L k (j + 1)) r → Ev (fun k => L k j) r) (hf : ∀ j, j < n → p j = false → Ev (fun k => L k j) (r2 j))
    (he : (∀ j, j < n → p j = true) → Ev (fun k => L k n) r1) : Ev (fun k => L k 0) (ff p r1 r2 n 0) := by
  suffices H : ∀ d j, j + d = n → (∀ i, i < j → p i = true) → Ev (fun k => L k j) (ff p r1 r2 d j) from H n 0 (by omega) (fun i hi => by omega)
  intro d
  induction d with
  | zero => intro j hj hp; obtain rfl : j = n := by omega
            exact he hp
  | succ d ih =>
    intro j hj hp
    unfold ff
    by_cases c : p j = true
    · rw [if_pos c]; exact ht j _ (by omega) c (ih (j + 1) (by omega) (fun i hi => by by_cases e : i = j; · rw [e]; exact c
                                                                                      · exact hp i (by omega)))
    · rw [if_neg c]; exact hf j (by omega) (by simpa using c)
theorem ff_map {ρ σ : Type} (f : ρ → σ) (p : Nat → Bool) (r1 : ρ) (r2 : Nat → ρ) (d j : Nat) : f (ff p r1 r2 d j) = ff p (f r1) (fun i => f (r2 i)) d j := by
  induction d generalizing j with
  | zero => rfl
  | succ d ih => unfold ff; split
                 · exact ih _
                 · rfl

/-! shaft -/
def ShOK (x : S51) : Prop := (1 ≤ x.f0 ∧ x.f0 ≤ 60) ∧ (1 ≤ x.f1 ∧ x.f1 ≤ 60) ∧ Valid x.f3 ∧ (0 ≤ x.f2 ∧ x.f2 ≤ (x.f3.length : Int) - 1)
instance (x : S51) : Decidable (ShOK x) := by unfold ShOK; infer_instance
/-- What is known of every shaft that comes in. -/
def ShW (x : S51) : Prop := (-32768 ≤ x.f0 ∧ x.f0 ≤ 32767) ∧ (-32768 ≤ x.f1 ∧ x.f1 ≤ 32767) ∧ (-32768 ≤ x.f2 ∧ x.f2 ≤ 32767) ∧ I16 x.f3 ∧ x.f3.length ≤ 1048576
def ShsB (l : List S51) : Bool := decide (1 ≤ (l.length : Int) ∧ (l.length : Int) ≤ 6) && ff (fun j : Nat => decide (ShOK (rd_T51 l (j : Int)))) true (fun _ => false) l.length 0
theorem rdSH (l : List S51) (j : Nat) (h : j < l.length) : rd_T51 l (j : Int) = l[j] := by
  unfold rd_T51; rw [Int.toNat_natCast, List.getD_eq_getElem?_getD, List.getElem?_eq_getElem h]; rfl
theorem ShsB_e {l : List S51} (h : ShsB l = true) : 1 ≤ l.length ∧ l.length ≤ 6 ∧ ∀ j, j < l.length → ShOK (rd_T51 l (j : Int)) := by
  unfold ShsB at h
  have h1 := (Bool.and_eq_true _ _).mp h
  have h2 := of_decide_eq_true h1.1
  have h3 := h1.2
  rw [ff_all] at h3
  exact ⟨by omega, by omega, fun j hj => of_decide_eq_true (of_decide_eq_true h3 j hj)⟩
theorem e_spec_l04Ok (l : List S51) (hw : ∀ x ∈ l, ShW x) (hl : l.length ≤ 1048576) : Ev (fun k => spec_l04Ok.f k l) (ShsB l) := by
  unfold spec_l04Ok.f ShsB
  simp only [e_spec_l00In, Option.bind_some]
  by_cases c : 1 ≤ (l.length : Int) ∧ (l.length : Int) ≤ 6
  · simp only [decide_eq_true c, if_true, Bool.true_and]
    have step : ∀ (j : Nat) (r : Bool), j < l.length → (Ev (fun k => if ShOK (rd_T51 l (j : Int)) then spec_l04Ok.l0 k l ((j : Int) + 1) else some false) r) → Ev (fun k => spec_l04Ok.l0 k l (j : Int)) r := by
      intro j r hj hk
      refine evs ?_
      have er := rdSH l j hj
      obtain ⟨a1, a2, a3, a4, a5⟩ := hw l[j] (List.getElem_mem hj)
      rw [← er] at a1 a2 a3 a4 a5
      clear er
      generalize hx : rd_T51 l (j : Int) = x at *
      simp (disch := omega) only [spec_l04Ok.l0, if_pos, w64, e_spec_l00In, Option.bind_some, hx]
      by_cases q0 : 1 ≤ x.f0 ∧ x.f0 ≤ 60
      · simp only [decide_eq_true q0, if_true]
        by_cases q1 : 1 ≤ x.f1 ∧ x.f1 ≤ 60
        · simp only [decide_eq_true q1, if_true]
          refine Ev.bind (e_spec_l01Ok x.f3 a4 a5) ?_
          by_cases q3 : Valid x.f3
          · simp only [q3, decide_true, if_true]
            by_cases q2 : 0 ≤ x.f2 ∧ x.f2 ≤ (x.f3.length : Int) - 1
            · simp only [decide_eq_true q2, if_true]
              simp only [if_pos (show ShOK x from ⟨q0, q1, q3, q2⟩)] at hk
              exact hk
            · simp only [decide_eq_false q2, Bool.false_eq_true, if_false]
              simp only [if_neg (show ¬ ShOK x from fun h => q2 h.2.2.2)] at hk
              exact hk
          · simp only [q3, decide_false, Bool.false_eq_true, if_false]
            simp only [if_neg (show ¬ ShOK x from fun h => q3 h.2.2.1)] at hk
            exact hk
        · simp only [decide_eq_false q1, Bool.false_eq_true, if_false]
          simp only [if_neg (show ¬ ShOK x from fun h => q1 h.2.1)] at hk
          exact hk
      · simp only [decide_eq_false q0, Bool.false_eq_true, if_false]
        simp only [if_neg (show ¬ ShOK x from fun h => q0 h.1)] at hk
        exact hk
    refine ev_find (fun k j => spec_l04Ok.l0 k l (j : Int)) (fun j : Nat => decide (ShOK (rd_T51 l (j : Int)))) l.length true (fun _ => false) ?_ ?_ ?_
    · intro j r hj hp ih
      refine step j r hj ?_
      simp only [if_pos (of_decide_eq_true hp)]; exact ih
    · intro j hj hp
      refine step j _ hj ?_
      simp only [if_neg (of_decide_eq_false hp)]; exact evo rfl
    · refine evs ?_
      simp (disch := omega) only [spec_l04Ok.l0, if_neg]
      exact evo rfl
  · simp only [decide_eq_false c, Bool.false_eq_true, if_false, Bool.false_and]; exact evo rfl
theorem e_impl_ValidShafts_c1 (x : S51) (hw : ShW x) : Ev (fun k => impl_ValidShafts_c1.f k x.f0 x.f1 x.f2 x.f3) (!decide (ShOK x)) := by
  obtain ⟨a1, a2, a3, a4, a5⟩ := hw
  unfold impl_ValidShafts_c1.f
  simp (disch := omega) only [w64, e_impl_inRange, Option.bind_some, impl_isPlace.f]
  by_cases q0 : 1 ≤ x.f0 ∧ x.f0 ≤ 60
  · simp only [decide_eq_true q0, if_true]
    by_cases q1 : 1 ≤ x.f1 ∧ x.f1 ≤ 60
    · simp only [decide_eq_true q1, if_true]
      refine Ev.bind (e_impl_ValidCam x.f3 a4 a5) ?_
      by_cases q3 : Valid x.f3
      · simp only [q3, decide_true, if_true]
        by_cases q2 : 0 ≤ x.f2 ∧ x.f2 ≤ (x.f3.length : Int) - 1
        · rw [decide_eq_true (show ShOK x from ⟨q0, q1, q3, q2⟩)]
          exact evo (by rw [decide_eq_true q2])
        · rw [decide_eq_false (show ¬ ShOK x from fun h => q2 h.2.2.2)]
          exact evo (by rw [decide_eq_false q2])
      · rw [decide_eq_false (show ¬ ShOK x from fun h => q3 h.2.2.1)]
        simp only [q3, decide_false, Bool.false_eq_true, if_false]; exact evo rfl
    · rw [decide_eq_false (show ¬ ShOK x from fun h => q1 h.2.1)]
      simp only [decide_eq_false q1, Bool.false_eq_true, if_false]; exact evo rfl
  · rw [decide_eq_false (show ¬ ShOK x from fun h => q0 h.1)]
    simp only [decide_eq_false q0, Bool.false_eq_true, if_false]; exact evo rfl
theorem e_impl_ValidShafts (l : List S51) (hw : ∀ x ∈ l, ShW x) (hl : l.length ≤ 1048576) : Ev (fun k => impl_ValidShafts.f k l) (ShsB l) := by
  unfold impl_ValidShafts.f ShsB
  simp only [e_impl_inRange, Option.bind_some]
  by_cases c : 1 ≤ (l.length : Int) ∧ (l.length : Int) ≤ 6
  · simp only [decide_eq_true c, if_true, Bool.true_and]
    unfold slices_ContainsFunc_at_impl_ValidShafts_c1.f slices_IndexFunc_at_impl_ValidShafts_c1.f
    have := ev_find (fun k j => slices_IndexFunc_at_impl_ValidShafts_c1.l0 k l (l.length : Int) (j : Int)) (fun j : Nat => decide (ShOK (rd_T51 l (j : Int)))) l.length (-1 : Int) (fun j => (j : Int)) ?_ ?_ ?_
    · refine Ev.bind (Ev.bind this (evo rfl)) (evo ?_)
      have e := ff_map (fun x : Int => !decide (x ≥ 0)) (fun j : Nat => decide (ShOK (rd_T51 l (j : Int)))) (-1 : Int) (fun j => (j : Int)) l.length 0
      rw [e]
      have e3 : (fun i : Nat => !decide ((i : Int) ≥ 0)) = fun _ : Nat => false := by
        funext i; rw [decide_eq_true (show (i : Int) ≥ 0 by omega)]; rfl
      rw [e3]; rfl
    · intro j r hj hp ih
      refine evs ?_
      have er := rdSH l j hj
      simp (disch := omega) only [slices_IndexFunc_at_impl_ValidShafts_c1.l0, if_pos, w64]
      refine Ev.bind (e_impl_ValidShafts_c1 (rd_T51 l (j : Int)) (by rw [er]; exact hw _ (List.getElem_mem hj))) ?_
      rw [hp]
      exact ih
    · intro j hj hp
      refine evs ?_
      have er := rdSH l j hj
      simp (disch := omega) only [slices_IndexFunc_at_impl_ValidShafts_c1.l0, if_pos, w64]
      refine Ev.bind (e_impl_ValidShafts_c1 (rd_T51 l (j : Int)) (by rw [er]; exact hw _ (List.getElem_mem hj))) ?_
      rw [hp]
      exact evo rfl
    · refine evs ?_
      simp (disch := omega) only [slices_IndexFunc_at_impl_ValidShafts_c1.l0, if_neg]
      exact evo rfl
  · simp only [decide_eq_false c, Bool.false_eq_true, if_false, Bool.false_and]; exact evo rfl

/-! drawn -/
theorem e_drawnL (l : List Int) (hu : U8 l) (hl : l.length ≤ 3000) (d : Nat) : ∀ (s : List S51) (p t : Int), s.length + d ≤ 6 → 0 ≤ p → p + 50 * d ≤ 700000 → (∀ x ∈ s, ShOK x ∧ ShW x) → ∃ s' p' t', Ev (fun k => spec_l04Drawn.l0 k s (d : Int) l p t) (s', p', t') ∧ s'.length = s.length + d ∧ (∀ x ∈ s', ShOK x ∧ ShW x) := by
  induction d with
  | zero =>
    intro s p t hc h0 h1 hx
    refine ⟨s, p, t, evs ?_, rfl, hx⟩
    simp (disch := omega) only [spec_l04Drawn.l0, if_neg]
    exact evo rfl
  | succ d ih =>
    intro s p t hc h0 h1 hx
    obtain ⟨v1, p1, t1, e1, a1, b1⟩ := e_pick l hu hl p (by omega) t 3 (by omega)
    obtain ⟨v2, p2, t2, e2, a2, b2⟩ := e_pick l hu hl p1 (by omega) t1 3 (by omega)
    obtain ⟨c, p3, t3, e3, a3, cx, b3⟩ := e_cam l hu hl p2 t2 (by omega) (by omega)
    obtain ⟨v4, p4, t4, e4, a4, b4⟩ := e_pick l hu hl p3 (by omega) t3 (c.length : Int) (by omega)
    have hv := valid_of c a3 cx
    have h16 : I16 c := fun x hm => by have := cx x hm; omega
    obtain ⟨s', p', t', e, hlen, hx'⟩ := ih (s ++ [(⟨1 + v1, 1 + v2, v4, c⟩ : S51)]) p4 t4 (by simp; omega) (by omega) (by omega) (by
      intro x hm
      rcases List.mem_append.1 hm with h | h
      · exact hx x h
      · rw [List.mem_singleton.1 h]
        exact ⟨⟨⟨by dsimp only; omega, by dsimp only; omega⟩, ⟨by dsimp only; omega, by dsimp only; omega⟩, hv, ⟨by dsimp only; omega, by dsimp only; omega⟩⟩, ⟨⟨by dsimp only; omega, by dsimp only; omega⟩, ⟨by dsimp only; omega, by dsimp only; omega⟩, ⟨by dsimp only; omega, by dsimp only; omega⟩, h16, by dsimp only; omega⟩⟩)
    refine ⟨s', p', t', evs ?_, by rw [hlen]; simp; omega, hx'⟩
    simp (disch := omega) only [spec_l04Drawn.l0, if_pos, e1, e2, Option.bind_some]
    refine Ev.bind e3 ?_
    simp (disch := omega) only [e4, Option.bind_some, if_pos]
    rw [w64 (x := 1 + v1) (by omega) (by omega), w64 (x := 1 + v2) (by omega) (by omega), w16 (x := 1 + v1) (by omega) (by omega), w16 (x := 1 + v2) (by omega) (by omega), w16 (x := v4) (by omega) (by omega), w64 (by omega) (by omega), show ((d + 1 : Nat) : Int) - 1 = d by omega]
    exact e
theorem ShsB_of (l : List S51) (h1 : 1 ≤ l.length) (h2 : l.length ≤ 6) (h : ∀ x ∈ l, ShOK x) : ShsB l = true := by
  unfold ShsB
  rw [Bool.and_eq_true]
  refine ⟨decide_eq_true (by omega), ?_⟩
  rcases ff_eq (fun j : Nat => decide (ShOK (rd_T51 l (j : Int)))) true (fun _ => false) l.length with ⟨_, e⟩ | ⟨m, hm, hp, _, _⟩
  · exact e
  · exact absurd (by rw [rdSH l m hm]; exact h _ (List.getElem_mem hm)) (of_decide_eq_false hp)
theorem e_spec_A2Shafts (l : List Int) (hu : U8 l) (hl : l.length ≤ 3000) : ∃ s, Ev (fun k => spec_A2Shafts.f k l) s ∧ ShsB s = true ∧ (∀ x ∈ s, ShW x) := by
  obtain ⟨v, p1, t1, e1, a1, b1⟩ := e_pick l hu hl 0 (by omega) 0 3 (by omega)
  obtain ⟨d, hd⟩ := Int.eq_ofNat_of_zero_le (show 0 ≤ 1 + v by omega)
  obtain ⟨s, p', t', e, hlen, hx⟩ := e_drawnL l hu hl d [] p1 t1 (by simp; omega) (by omega) (by omega) (by simp)
  rw [List.length_nil, Nat.zero_add] at hlen
  refine ⟨s, ?_, ShsB_of s (by omega) (by omega) (fun x hm => (hx x hm).1), fun x hm => (hx x hm).2⟩
  unfold spec_A2Shafts.f spec_l00From.f spec_l04Drawn.f
  simp only [Option.bind_some, e1]
  rw [w64 (by omega) (by omega), hd]
  exact Ev.bind e (evo rfl)

/-! shi -/
theorem rdSHi (l : List S51) (i : Int) (h0 : 0 ≤ i) (h1 : i < l.length) (p : S51 → Prop) (hp : ∀ x ∈ l, p x) : p (rd_T51 l i) := by
  obtain ⟨j, rfl⟩ := Int.eq_ofNat_of_zero_le h0
  rw [rdSH l j (by omega)]
  exact hp _ (List.getElem_mem _)
theorem ShsB_i {l : List S51} (h : ShsB l = true) (i : Int) (h0 : 0 ≤ i) (h1 : i < l.length) : ShOK (rd_T51 l i) := by
  obtain ⟨j, rfl⟩ := Int.eq_ofNat_of_zero_le h0
  exact (ShsB_e h).2.2 j (by omega)

/-! impl_first -/
theorem e_impl_firstCode (l : List Int) (hl : l.length ≤ 10000000) : Ev (fun k => impl_firstCode.f k l) (fnz l) := by
  unfold impl_firstCode.f
  suffices H : ∀ d j, j + d = l.length → Ev (fun k => impl_firstCode.l0 k l (l.length : Int) (j : Int)) (fnz (l.drop j)) from by
    have := H l.length 0 (by omega); simpa using this
  intro d
  induction d with
  | zero =>
    intro j hj
    refine evs ?_
    simp (disch := omega) only [impl_firstCode.l0, if_neg]
    exact evo (by rw [List.drop_of_length_le (by omega)]; rfl)
  | succ d ih =>
    intro j hj
    refine evs ?_
    have hj2 : j < l.length := by omega
    simp (disch := omega) only [impl_firstCode.l0, if_pos, w64]
    have e : l.drop j = rd l (j : Int) :: l.drop (j + 1) := by
      rw [List.drop_eq_getElem_cons hj2, rd_nat]; simp [List.getD_eq_getElem?_getD, hj2]
    rw [e]; unfold fnz
    by_cases c : rd l (j : Int) = 0
    · simp only [if_pos c]; exact ih (j + 1) (by omega)
    · simp only [if_neg c]; exact evo rfl
theorem e_impl_codeIf (b : Bool) (c : Int) : impl_codeIf.f b c = some (if b = true then c else 0) := by
  unfold impl_codeIf.f; split <;> rfl

/-! StepOn -/
def soV (x : S51) (t : Int) : Int := Int.tmod (wrap64 (x.f2 + wrap64 (Int.tdiv (wrap64 (t * x.f0)) x.f1))) (x.f3.length : Int)
def soR (l : List S51) (i t : Int) : Int × Int := if ShsB l = true then (if (0 ≤ i ∧ i ≤ (l.length : Int) - 1) ∧ (0 ≤ t ∧ t ≤ 1000000) then (soV (rd_T51 l i) t, 0) else (0, 2)) else (0, 1)

/-! lifts -/
def loV (x : S51) (t : Int) : Int := rd x.f3 (soV x t)
def loL (l : List S51) (t : Int) : List Int := (List.range l.length).map fun j : Nat => loV (rd_T51 l (j : Int)) t
theorem soV_b (x : S51) (w : ShW x) (ok : ShOK x) (t : Int) (ht : 0 ≤ t ∧ t ≤ 1000000) : 0 ≤ soV x t ∧ soV x t < (x.f3.length : Int) := by
  have n1 : 1 ≤ (x.f3.length : Int) := by have := ok.2.2.1.1; omega
  have a1 : 0 ≤ t * x.f0 := Int.mul_nonneg ht.1 (by have := ok.1.1; omega)
  have a2 : t * x.f0 ≤ 1000000 * 60 := by
    have h1 : t * x.f0 ≤ 1000000 * x.f0 := Int.mul_le_mul_of_nonneg_right ht.2 (by have := ok.1.1; omega)
    have := ok.1.2
    omega
  have b1 : 0 ≤ Int.tdiv (t * x.f0) x.f1 := Int.tdiv_nonneg a1 (by have := ok.2.1.1; omega)
  have b2 : Int.tdiv (t * x.f0) x.f1 ≤ t * x.f0 := Int.tdiv_le_self _ a1
  have c := ok.2.2.2
  have d := w.2.2.1
  unfold soV
  rw [w64 (x := t * x.f0) (by omega) (by omega), w64 (x := Int.tdiv (t * x.f0) x.f1) (by omega) (by omega), w64 (by omega) (by omega)]
  exact ⟨Int.tmod_nonneg _ (by omega), Int.tmod_lt_of_pos _ (by omega)⟩
theorem e_impl_now (x : S51) (w : ShW x) (ok : ShOK x) (t : Int) (ht : 0 ≤ t ∧ t ≤ 1000000) : impl_Shaft_now.f x.f0 x.f1 x.f2 x.f3 t = some (loV x t) := by
  have b := soV_b x w ok t ht
  have r := I16.rdb w.2.2.2.1 (soV x t)
  have b1 := ok.2.1
  have b2 := ok.2.2.1.1
  have w' := w
  obtain ⟨a1, a2, a3, a4, a5⟩ := w'
  have e1 : wrap64 x.f0 = x.f0 := w64 (by omega) (by omega)
  have e2 : wrap64 x.f1 = x.f1 := w64 (by omega) (by omega)
  have e3 : wrap64 x.f2 = x.f2 := w64 (by omega) (by omega)
  unfold impl_Shaft_now.f impl_Shaft_lift.f impl_Shaft_step.f
  unfold loV soV at *
  simp (disch := omega) only [e1, e2, e3, if_neg, e_impl_Cam_steps, Option.bind_some, if_pos]
  rw [w64 (by omega) (by omega)]
theorem e_spec_l04Lift (x : S51) (w : ShW x) (ok : ShOK x) (t : Int) (ht : 0 ≤ t ∧ t ≤ 1000000) : spec_l04Lift.f x.f0 x.f1 x.f2 x.f3 t = some (loV x t) := by
  have b := soV_b x w ok t ht
  have r := I16.rdb w.2.2.2.1 (soV x t)
  have b1 := ok.2.1
  have b2 := ok.2.2.1.1
  have w' := w
  obtain ⟨a1, a2, a3, a4, a5⟩ := w'
  have e1 : wrap64 x.f0 = x.f0 := w64 (by omega) (by omega)
  have e2 : wrap64 x.f1 = x.f1 := w64 (by omega) (by omega)
  have e3 : wrap64 x.f2 = x.f2 := w64 (by omega) (by omega)
  unfold spec_l04Lift.f spec_l04Step.f
  unfold loV soV at *
  simp (disch := omega) only [e1, e2, e3, if_neg, Option.bind_some, if_pos]
  rw [w64 (by omega) (by omega)]
theorem loL_snoc (f : Nat → Int) (j : Nat) : (List.range j).map f ++ [f j] = (List.range (j + 1)).map f := by rw [List.range_succ, List.map_append]; rfl
theorem e_impl_liftsOn (l : List S51) (hw : ∀ x ∈ l, ShW x) (v : ShsB l = true) (t : Int) (ht : 0 ≤ t ∧ t ≤ 1000000) : Ev (fun k => impl_liftsOn.f k l t) (loL l t) := by
  obtain ⟨n1, n2, _⟩ := ShsB_e v
  unfold impl_liftsOn.f
  have := ev_loop (fun k j => impl_liftsOn.l0 k t ((List.range j).map fun j : Nat => loV (rd_T51 l (j : Int)) t) l (l.length : Int) (j : Int)) l.length (loL l t) ?_ ?_
  · exact this
  · intro j hj ih
    refine evs ?_
    have ok := ShsB_i v (j : Int) (by omega) (by omega)
    have w := rdSHi l (j : Int) (by omega) (by omega) ShW hw
    have el : ((List.range j).map fun j : Nat => loV (rd_T51 l (j : Int)) t).length = j := by simp
    simp (disch := omega) only [impl_liftsOn.l0, if_pos, w64, e_impl_now _ w ok t ht, Option.bind_some, el]
    rw [loL_snoc (fun j : Nat => loV (rd_T51 l (j : Int)) t) j]
    exact ih
  · refine evs ?_
    simp (disch := omega) only [impl_liftsOn.l0, if_neg]
    exact evo rfl

/-! liftson -/
def liR (l : List S51) (t : Int) : List Int × Int := if ShsB l = true then (if 0 ≤ t ∧ t ≤ 1000000 then (loL l t, 0) else ([], 2)) else ([], 1)
theorem e_impl_LiftsOn (l : List S51) (hw : ∀ x ∈ l, ShW x) (hl : l.length ≤ 1048576) (t : Int) : Ev (fun k => impl_LiftsOn.f k l t) (liR l t) := by
  unfold impl_LiftsOn.f liR
  refine Ev.bind (e_impl_ValidShafts l hw hl) ?_
  simp only [e_impl_codeIf, e_impl_inRange, Option.bind_some]
  refine Ev.bind (e_impl_firstCode _ (by simp)) ?_
  by_cases v : ShsB l = true
  · by_cases q : 0 ≤ t ∧ t ≤ 1000000
    · rw [if_pos v, if_pos q, v, decide_eq_true q]
      simp only [Bool.not_true, Bool.false_eq_true, if_false, fnz, if_true]
      exact Ev.bind (e_impl_liftsOn l hw v t q) (evo rfl)
    · rw [if_pos v, if_neg q, v, decide_eq_false q]; exact evo rfl
  · rw [if_neg v, Bool.eq_false_iff.mpr v]; exact evo rfl

/-! gcd -/
theorem gcd_loop (L : Nat → Int → Int → Option Int) (hL : ∀ k a b, L (k + 1) a b = if b = 0 then some a else L k b (Int.tmod a b)) (a b : Nat) : Ev (fun k => L k (a : Int) (b : Int)) ((Nat.gcd a b : Nat) : Int) := by
  induction b using Nat.strongRecOn generalizing a with
  | _ b ih =>
    refine evs ?_
    by_cases h : b = 0
    · subst h
      simp only [hL, Int.natCast_zero, if_true]
      exact evo (by rw [Nat.gcd_zero_right])
    · have hb : (b : Int) ≠ 0 := by omega
      simp only [hL, if_neg hb]
      have e : Int.tmod (a : Int) (b : Int) = ((a % b : Nat) : Int) := by rw [tmod_pos (by omega)]; exact (Int.natCast_emod a b).symm
      rw [e]
      have := ih (a % b) (Nat.mod_lt _ (by omega)) b
      rw [show Nat.gcd a b = Nat.gcd b (a % b) by rw [Nat.gcd_comm, Nat.gcd_rec, Nat.gcd_comm]]
      exact this

/-! own -/
def ownG (x : S51) : Int := ((Nat.gcd (x.f1 * (x.f3.length : Int)).toNat x.f0.toNat : Nat) : Int)
def ownP (x : S51) : Int := Int.tdiv (x.f1 * (x.f3.length : Int)) (ownG x)
theorem gcd_b (a b : Nat) (ha : 0 < a) : 1 ≤ ((Nat.gcd a b : Nat) : Int) ∧ ((Nat.gcd a b : Nat) : Int) ≤ a ∧ ((Nat.gcd a b : Nat) : Int) ∣ (a : Int) := by
  have h1 : 0 < Nat.gcd a b := Nat.gcd_pos_of_pos_left _ ha
  have h2 := Nat.gcd_dvd_left a b
  have h3 := Nat.le_of_dvd ha h2
  exact ⟨by omega, by omega, Int.natCast_dvd_natCast.mpr h2⟩
theorem tdiv_dvd_b (a g : Int) (ha : 1 ≤ a) (hg : 1 ≤ g) (hd : g ∣ a) : 1 ≤ Int.tdiv a g ∧ Int.tdiv a g ≤ a := by
  obtain ⟨q, rfl⟩ := hd
  rw [Int.mul_tdiv_cancel_left _ (by omega)]
  have hq : 1 ≤ q := by
    apply Int.le_of_not_gt; intro h
    have := Int.mul_le_mul_of_nonneg_left (show q ≤ 0 by omega) (show 0 ≤ g by omega)
    rw [Int.mul_zero] at this; omega
  have := Int.mul_le_mul_of_nonneg_right hg (show 0 ≤ q by omega)
  exact ⟨hq, by omega⟩
theorem own_b (x : S51) (h : ShOK x) : (1 ≤ x.f1 * (x.f3.length : Int) ∧ x.f1 * (x.f3.length : Int) ≤ 21600) ∧ 1 ≤ ownG x ∧ 1 ≤ ownP x ∧ ownP x ≤ 21600 := by
  have b1 := h.2.1
  have b3 := h.2.2.1.1
  have b4 := h.2.2.1.2.1
  have m := mul_b (A := 60) (B := 360) (show 0 ≤ x.f1 by omega) b1.2 (show (0 : Int) ≤ (x.f3.length : Int) by omega) (by omega)
  have p := Int.mul_pos (show 0 < x.f1 by omega) (show (0 : Int) < (x.f3.length : Int) by omega)
  have g := gcd_b (x.f1 * (x.f3.length : Int)).toNat x.f0.toNat (by omega)
  rw [Int.toNat_of_nonneg (by omega)] at g
  have t := tdiv_dvd_b (x.f1 * (x.f3.length : Int)) (ownG x) (by omega) g.1 g.2.2
  exact ⟨⟨by omega, by omega⟩, g.1, t.1, by unfold ownP; omega⟩
theorem e_spec_gcd (a b : Int) (ha : 0 ≤ a) (hb : 0 ≤ b) : Ev (fun k => spec_l04Gcd.f k a b) ((Nat.gcd a.toNat b.toNat : Nat) : Int) := by
  have := gcd_loop spec_l04Gcd.f (fun k a b => by simp only [spec_l04Gcd.f]; split <;> first | rfl | (cases spec_l04Gcd.f k b (Int.tmod a b) <;> rfl)) a.toNat b.toNat
  rw [Int.toNat_of_nonneg ha, Int.toNat_of_nonneg hb] at this
  exact this
theorem e_impl_common (a b : Int) (ha : 0 ≤ a) (hb : 0 ≤ b) : Ev (fun k => impl_common.f k a b) ((Nat.gcd a.toNat b.toNat : Nat) : Int) := by
  have := gcd_loop impl_common.l0 (fun k a b => by simp only [impl_common.l0]) a.toNat b.toNat
  rw [Int.toNat_of_nonneg ha, Int.toNat_of_nonneg hb] at this
  exact this
theorem e_spec_l04Own (x : S51) (hw : ShW x) (h : ShOK x) : Ev (fun k => spec_l04Own.f k x.f0 x.f1 x.f2 x.f3) (ownP x) := by
  obtain ⟨a1, a2, a3, a4, a5⟩ := hw
  obtain ⟨b1, b2, b3, b4⟩ := own_b x h
  have c0 := h.1
  unfold spec_l04Own.f
  simp (disch := omega) only [w64]
  refine Ev.bind (e_spec_gcd _ _ (by omega) (by omega)) ?_
  unfold ownG at b2
  refine ev_neg (by omega) (evo ?_)
  exact w64 (by unfold ownP ownG at b3; omega) (by unfold ownP ownG at b4; omega)
theorem e_impl_Shaft_period (x : S51) (hw : ShW x) (h : ShOK x) : Ev (fun k => impl_Shaft_period.f k x.f0 x.f1 x.f2 x.f3) (ownP x) := by
  obtain ⟨a1, a2, a3, a4, a5⟩ := hw
  obtain ⟨b1, b2, b3, b4⟩ := own_b x h
  have c0 := h.1
  unfold impl_Shaft_period.f
  simp (disch := omega) only [w64, e_impl_Cam_steps, Option.bind_some]
  refine Ev.bind (e_impl_common _ _ (by omega) (by omega)) ?_
  unfold ownG at b2
  refine ev_neg (by omega) (evo ?_)
  exact w64 (by unfold ownP ownG at b3; omega) (by unfold ownP ownG at b4; omega)

/-! find3 -/
theorem ev_find3 {ρ : Type} (L : Nat → Nat → Option ρ) (p : Nat → Bool) (n : Nat) (r1 : ρ) (r2 : Nat → ρ)
    (ht : ∀ j r, j < n → (∀ i, i < j → p i = true) → p j = true → Ev (fun k => L k (j + 1)) r → Ev (fun k => L k j) r) (hf : ∀ j, j < n → (∀ i, i < j → p i = true) → p j = false → Ev (fun k => L k j) (r2 j))
    (he : (∀ j, j < n → p j = true) → Ev (fun k => L k n) r1) : Ev (fun k => L k 0) (ff p r1 r2 n 0) := by
  suffices H : ∀ d j, j + d = n → (∀ i, i < j → p i = true) → Ev (fun k => L k j) (ff p r1 r2 d j) from H n 0 (by omega) (fun i hi => by omega)
  intro d
  induction d with
  | zero => intro j hj hp; obtain rfl : j = n := by omega
            exact he hp
  | succ d ih =>
    intro j hj hp
    unfold ff
    by_cases c : p j = true
    · rw [if_pos c]; exact ht j _ (by omega) hp c (ih (j + 1) (by omega) (fun i hi => by by_cases e : i = j; · rw [e]; exact c
                                                                                         · exact hp i (by omega)))
    · rw [if_neg c]; exact hf j (by omega) hp (by simpa using c)

/-! allp -/
def allN (l : List S51) : Nat → Int
  | 0 => 1
  | j + 1 => Int.tdiv (allN l j) ((Nat.gcd (allN l j).toNat (ownP (rd_T51 l (j : Int))).toNat : Nat) : Int) * ownP (rd_T51 l (j : Int))
theorem allN_s (l : List S51) (j : Nat) : allN l (j + 1) = Int.tdiv (allN l j) ((Nat.gcd (allN l j).toNat (ownP (rd_T51 l (j : Int))).toNat : Nat) : Int) * ownP (rd_T51 l (j : Int)) := rfl
def allP (l : List S51) (j : Nat) : Bool := !decide (allN l (j + 1) > 20000)
theorem allN_b (l : List S51) (v : ShsB l = true) (j : Nat) (hj : j ≤ l.length) (hp : ∀ i, i < j → allP l i = true) : 1 ≤ allN l j ∧ allN l j ≤ 20000 := by
  induction j with
  | zero => exact ⟨by simp [allN], by simp [allN]⟩
  | succ j ih =>
    have b := ih (by omega) (fun i hi => hp i (by omega))
    have o := own_b _ ((ShsB_e v).2.2 j (by omega))
    have g := gcd_b (allN l j).toNat (ownP (rd_T51 l (j : Int))).toNat (by omega)
    rw [Int.toNat_of_nonneg (by omega)] at g
    have t := tdiv_dvd_b (allN l j) _ b.1 g.1 g.2.2
    have q := hp j (by omega)
    unfold allP at q
    rw [Bool.not_eq_true'] at q
    have q2 := of_decide_eq_false q
    refine ⟨?_, by omega⟩
    rw [allN_s]
    have := Int.mul_pos (show 0 < Int.tdiv (allN l j) ((Nat.gcd (allN l j).toNat (ownP (rd_T51 l (j : Int))).toNat : Nat) : Int) by omega) (show 0 < ownP (rd_T51 l (j : Int)) by omega)
    omega
theorem allN_step (l : List S51) (v : ShsB l = true) (j : Nat) (hj : j < l.length) (hp : ∀ i, i < j → allP l i = true) :
    1 ≤ ((Nat.gcd (allN l j).toNat (ownP (rd_T51 l (j : Int))).toNat : Nat) : Int) ∧ wrap64 (wrap64 (Int.tdiv (allN l j) ((Nat.gcd (allN l j).toNat (ownP (rd_T51 l (j : Int))).toNat : Nat) : Int)) * ownP (rd_T51 l (j : Int))) = allN l (j + 1) := by
  have b := allN_b l v j (by omega) hp
  have o := own_b _ ((ShsB_e v).2.2 j hj)
  have g := gcd_b (allN l j).toNat (ownP (rd_T51 l (j : Int))).toNat (by omega)
  rw [Int.toNat_of_nonneg (by omega)] at g
  have t := tdiv_dvd_b (allN l j) _ b.1 g.1 g.2.2
  have m := mul_b (A := 20000) (B := 21600) (show 0 ≤ Int.tdiv (allN l j) ((Nat.gcd (allN l j).toNat (ownP (rd_T51 l (j : Int))).toNat : Nat) : Int) by omega) (by omega) (show 0 ≤ ownP (rd_T51 l (j : Int)) by omega) (by omega)
  refine ⟨g.1, ?_⟩
  rw [w64 (x := Int.tdiv (allN l j) _) (by omega) (by omega), w64 (by omega) (by omega)]
  rfl
def allR (l : List S51) : Int × Int := if ShsB l = true then ff (allP l) (allN l l.length, (0 : Int)) (fun _ => (0, 3)) l.length 0 else (0, 1)
theorem e_spec_l04All (l : List S51) (hw : ∀ x ∈ l, ShW x) (hl : l.length ≤ 1048576) : Ev (fun k => spec_l04All.f k l) (allR l) := by
  unfold spec_l04All.f allR
  refine Ev.bind (e_spec_l04Ok l hw hl) ?_
  by_cases v : ShsB l = true
  · simp only [if_pos v]
    refine ev_find3 (fun k j => spec_l04All.l0 k l (allN l j) (j : Int)) (allP l) l.length (allN l l.length, (0 : Int)) (fun _ => (0, 3)) ?_ ?_ ?_
    · intro j r hj hp hpj ih
      refine evs ?_
      have er := rdSH l j hj
      have b := allN_b l v j (by omega) hp
      have s := allN_step l v j hj hp
      have o := own_b _ ((ShsB_e v).2.2 j hj)
      simp (disch := omega) only [spec_l04All.l0, if_pos]
      refine Ev.bind (e_spec_l04Own _ (by rw [er]; exact hw _ (List.getElem_mem hj)) ((ShsB_e v).2.2 j hj)) (Ev.bind (e_spec_gcd _ _ (by omega) (by omega)) ?_)
      refine ev_neg (by omega) ?_
      rw [s.2]
      rw [allP, Bool.not_eq_true'] at hpj
      refine ev_neg (of_decide_eq_false hpj) ?_
      rw [w64 (by omega) (by omega)]
      exact ih
    · intro j hj hp hpj
      refine evs ?_
      have er := rdSH l j hj
      have b := allN_b l v j (by omega) hp
      have s := allN_step l v j hj hp
      have o := own_b _ ((ShsB_e v).2.2 j hj)
      simp (disch := omega) only [spec_l04All.l0, if_pos]
      refine Ev.bind (e_spec_l04Own _ (by rw [er]; exact hw _ (List.getElem_mem hj)) ((ShsB_e v).2.2 j hj)) (Ev.bind (e_spec_gcd _ _ (by omega) (by omega)) ?_)
      refine ev_neg (by omega) ?_
      rw [s.2]
      rw [allP, Bool.not_eq_false'] at hpj
      exact ev_pos (of_decide_eq_true hpj) (evo rfl)
    · intro _
      refine evs ?_
      simp (disch := omega) only [spec_l04All.l0, if_neg]
      exact evo rfl
  · simp only [if_neg v]; exact evo rfl
theorem e_impl_periodOf (l : List S51) (hw : ∀ x ∈ l, ShW x) (hl : l.length ≤ 1048576) (v : ShsB l = true) : Ev (fun k => impl_periodOf.f k l) (ff (allP l) (allN l l.length, true) (fun _ => ((0 : Int), false)) l.length 0) := by
  unfold impl_periodOf.f
  refine ev_find3 (fun k j => impl_periodOf.l0 k (allN l j) l (l.length : Int) (j : Int)) (allP l) l.length (allN l l.length, true) (fun _ => ((0 : Int), false)) ?_ ?_ ?_
  · intro j r hj hp hpj ih
    refine evs ?_
    have er := rdSH l j hj
    have b := allN_b l v j (by omega) hp
    have s := allN_step l v j hj hp
    have o := own_b _ ((ShsB_e v).2.2 j hj)
    simp (disch := omega) only [impl_periodOf.l0, if_pos]
    refine Ev.bind (e_impl_Shaft_period _ (by rw [er]; exact hw _ (List.getElem_mem hj)) ((ShsB_e v).2.2 j hj)) (Ev.bind (e_impl_common _ _ (by omega) (by omega)) ?_)
    refine ev_neg (by omega) ?_
    rw [s.2]
    rw [allP, Bool.not_eq_true'] at hpj
    refine ev_neg (of_decide_eq_false hpj) ?_
    rw [w64 (by omega) (by omega)]
    exact ih
  · intro j hj hp hpj
    refine evs ?_
    have er := rdSH l j hj
    have b := allN_b l v j (by omega) hp
    have s := allN_step l v j hj hp
    have o := own_b _ ((ShsB_e v).2.2 j hj)
    simp (disch := omega) only [impl_periodOf.l0, if_pos]
    refine Ev.bind (e_impl_Shaft_period _ (by rw [er]; exact hw _ (List.getElem_mem hj)) ((ShsB_e v).2.2 j hj)) (Ev.bind (e_impl_common _ _ (by omega) (by omega)) ?_)
    refine ev_neg (by omega) ?_
    rw [s.2]
    rw [allP, Bool.not_eq_false'] at hpj
    exact ev_pos (of_decide_eq_true hpj) (evo rfl)
  · intro _
    refine evs ?_
    simp (disch := omega) only [impl_periodOf.l0, if_neg]
    exact evo rfl
theorem e_impl_shaftsCode (l : List S51) (hw : ∀ x ∈ l, ShW x) (hl : l.length ≤ 1048576) : Ev (fun k => impl_shaftsCode.f k l true) (allR l) := by
  unfold impl_shaftsCode.f allR
  refine Ev.bind (e_impl_ValidShafts l hw hl) ?_
  simp only [e_impl_codeIf, Option.bind_some]
  refine Ev.bind (e_impl_firstCode _ (by simp)) ?_
  by_cases v : ShsB l = true
  · rw [if_pos v, v]
    simp only [Bool.not_true, Bool.false_eq_true, if_false, fnz, if_true]
    refine Ev.bind (e_impl_periodOf l hw hl v) (evo ?_)
    have e := ff_map (fun x : Int × Bool => (x.1, if (!x.2) = true then (3 : Int) else 0)) (allP l) (allN l l.length, true) (fun _ => ((0 : Int), false)) l.length 0
    dsimp only at e
    exact e
  · rw [if_neg v, Bool.eq_false_iff.mpr v]; exact evo rfl

def eC (l : List S51) (t lev : Int) (q : Nat) : Bool := decide (lev ≤ loV (rd_T51 l ((q % l.length : Nat) : Int)) ((q / l.length : Nat) : Int)) && decide (loV (rd_T51 l ((q % l.length : Nat) : Int)) ((((q / l.length : Nat) : Int) + t - 1) % t) < lev)
def eG (n q : Nat) : S34 := ⟨((q / n : Nat) : Int), ((q % n : Nat) : Int)⟩
def eP (l : List S51) (t lev : Int) (q : Nat) : List S34 := ((List.range q).filter (eC l t lev)).map (eG l.length)
theorem eP_s (l : List S51) (t lev : Int) (q : Nat) : eP l t lev (q + 1) = if eC l t lev q = true then eP l t lev q ++ [eG l.length q] else eP l t lev q := by
  unfold eP
  rw [List.range_succ, List.filter_append, List.map_append]
  by_cases c : eC l t lev q = true
  · rw [if_pos c, List.filter_cons_of_pos c]; rfl
  · rw [if_neg c, List.filter_cons_of_neg c]; simp
theorem eP_len (l : List S51) (t lev : Int) (q : Nat) : (eP l t lev q).length ≤ q := by
  unfold eP
  rw [List.length_map]
  have := List.length_filter_le (eC l t lev) (List.range q)
  rw [List.length_range] at this
  exact this
theorem q_div (n i j : Nat) (h : j < n) : (i * n + j) / n = i := by
  rw [Nat.mul_comm, Nat.mul_add_div (by omega), Nat.div_eq_of_lt h, Nat.add_zero]
theorem q_mod (n i j : Nat) (h : j < n) : (i * n + j) % n = j := by
  rw [Nat.mul_comm, Nat.mul_add_mod, Nat.mod_eq_of_lt h]
theorem eC_at (l : List S51) (t lev : Int) (i j : Nat) (h : j < l.length) : eC l t lev (i * l.length + j) = (decide (lev ≤ loV (rd_T51 l (j : Int)) (i : Int)) && decide (loV (rd_T51 l (j : Int)) (((i : Int) + t - 1) % t) < lev)) := by
  unfold eC
  rw [q_div _ _ _ h, q_mod _ _ _ h]
theorem eG_at (n i j : Nat) (h : j < n) : eG n (i * n + j) = ⟨(i : Int), (j : Int)⟩ := by
  unfold eG
  rw [q_div _ _ _ h, q_mod _ _ _ h]
theorem rd_loL (l : List S51) (t : Int) (j : Nat) (h : j < l.length) : rd (loL l t) (j : Int) = loV (rd_T51 l (j : Int)) t := by
  rw [rd_nat]
  unfold loL
  simp [List.getD_eq_getElem?_getD, h]
theorem loL_len (l : List S51) (t : Int) : (loL l t).length = l.length := by simp [loL]
theorem before_b (t : Int) (ht : 1 ≤ t ∧ t ≤ 20000) (i : Int) : 0 ≤ (i + t - 1) % t ∧ (i + t - 1) % t ≤ 1000000 := by
  have := emod_b (i + t - 1) (show 0 < t by omega)
  omega
theorem before_0 (t : Int) (ht : 1 ≤ t ∧ t ≤ 20000) : (((0 : Nat) : Int) + t - 1) % t = t - 1 := by
  rw [show (((0 : Nat) : Int) + t - 1) = t - 1 by omega]
  exact Int.emod_eq_of_lt (by omega) (by omega)
theorem before_s (t : Int) (ht : 1 ≤ t ∧ t ≤ 20000) (i : Nat) (hi : (i : Int) < t) : (((i + 1 : Nat) : Int) + t - 1) % t = (i : Int) := by
  rw [show (((i + 1 : Nat) : Int) + t - 1) = (i : Int) + t by omega, Int.add_emod_right]
  exact Int.emod_eq_of_lt (by omega) hi
def evR (l : List S51) (lev : Int) : List S34 × Int := if (allR l).2 = 0 then (eP l (allR l).1 lev ((allR l).1.toNat * l.length), 0) else ([], (allR l).2)
theorem e_spec_evL (l : List S51) (hw : ∀ x ∈ l, ShW x) (v : ShsB l = true) (T : Nat) (hT : 1 ≤ T ∧ T ≤ 20000) (lev : Int) : Ev (fun k => spec_EventsOf.l0 k l lev (T : Int) [] 0) (eP l (T : Int) lev (T * l.length), 0) := by
  obtain ⟨n1, n2, _⟩ := ShsB_e v
  have h0 := ev_loop (fun k i => spec_EventsOf.l0 k l lev (T : Int) (eP l (T : Int) lev (i * l.length)) (i : Int)) T (eP l (T : Int) lev (T * l.length), 0) ?_ ?_
  · simp only [Nat.zero_mul] at h0
    exact h0
  · intro i hi ih
    refine evs ?_
    simp (disch := omega) only [spec_EventsOf.l0, if_pos]
    refine ev_loop (fun k j => spec_EventsOf.l1 k l lev (T : Int) (eP l (T : Int) lev (i * l.length + j)) (i : Int) (j : Int)) l.length _ ?_ ?_
    · intro j hj ih2
      refine evs ?_
      have ok := ShsB_i v (j : Int) (by omega) (by omega)
      have w := rdSHi l (j : Int) (by omega) (by omega) ShW hw
      have bb := before_b (T : Int) (by omega) (i : Int)
      have el := eP_len l (T : Int) lev (i * l.length + j)
      have em : i * l.length ≤ 20000 * 6 := Nat.mul_le_mul (by omega) n2
      simp (disch := omega) only [spec_EventsOf.l1, if_pos, e_spec_l04Lift _ w ok (i : Int) (by omega), Option.bind_some]
      rw [← Nat.add_assoc, eP_s, eC_at l _ _ i j hj, eG_at _ i j hj] at ih2
      by_cases c : loV (rd_T51 l (j : Int)) (i : Int) ≥ lev
      · simp (disch := omega) only [if_pos c, if_neg, w64]
        rw [tmod_pos (show 0 ≤ (i : Int) + (T : Int) - 1 by omega), e_spec_l04Lift _ w ok _ bb]
        simp only [Option.bind_some]
        rw [decide_eq_true c, Bool.true_and] at ih2
        by_cases d : loV (rd_T51 l (j : Int)) (((i : Int) + (T : Int) - 1) % (T : Int)) < lev
        · simp (disch := omega) only [if_pos d, if_pos]
          rw [decide_eq_true d, if_pos rfl] at ih2
          exact ih2
        · simp only [if_neg d]
          rw [decide_eq_false d, if_neg Bool.false_ne_true] at ih2
          exact ih2
      · simp (disch := omega) only [if_neg c, w64]
        rw [decide_eq_false (show ¬ lev ≤ loV (rd_T51 l (j : Int)) (i : Int) from c), Bool.false_and, if_neg Bool.false_ne_true] at ih2
        exact ih2
    · refine evs ?_
      simp (disch := omega) only [spec_EventsOf.l1, if_neg, w64]
      rw [show i * l.length + l.length = (i + 1) * l.length by rw [Nat.add_mul, Nat.one_mul]]
      exact ih
  · refine evs ?_
    simp (disch := omega) only [spec_EventsOf.l0, if_neg]
    exact evo rfl
theorem e_impl_evL (l : List S51) (hw : ∀ x ∈ l, ShW x) (v : ShsB l = true) (T : Nat) (hT : 1 ≤ T ∧ T ≤ 20000) (lev : Int) : Ev (fun k => impl_EventsOf.l0 k l lev [] (loL l ((T : Int) - 1)) (T : Int) 0) (eP l (T : Int) lev (T * l.length), 0) := by
  obtain ⟨n1, n2, _⟩ := ShsB_e v
  have h0 := ev_loop (fun k i => impl_EventsOf.l0 k l lev (eP l (T : Int) lev (i * l.length)) (loL l (((i : Int) + (T : Int) - 1) % (T : Int))) (T : Int) (i : Int)) T (eP l (T : Int) lev (T * l.length), 0) ?_ ?_
  · simp only [Nat.zero_mul] at h0
    rw [before_0 (T : Int) (by omega)] at h0
    exact h0
  · intro i hi ih
    refine evs ?_
    simp (disch := omega) only [impl_EventsOf.l0, if_pos]
    refine Ev.bind (e_impl_liftsOn l hw v (i : Int) (by omega)) ?_
    rw [loL_len]
    refine ev_loop (fun k j => impl_EventsOf.l1 k l lev (eP l (T : Int) lev (i * l.length + j)) (loL l (((i : Int) + (T : Int) - 1) % (T : Int))) (i : Int) (loL l (i : Int)) (T : Int) (i : Int) (loL l (i : Int)) (l.length : Int) (j : Int)) l.length _ ?_ ?_
    · intro j hj ih2
      refine evs ?_
      have el := eP_len l (T : Int) lev (i * l.length + j)
      have em : i * l.length ≤ 20000 * 6 := Nat.mul_le_mul (by omega) n2
      have a1 := loL_len l (i : Int)
      have a2 := loL_len l (((i : Int) + (T : Int) - 1) % (T : Int))
      simp (disch := omega) only [impl_EventsOf.l1, if_pos, rd_loL l _ j hj]
      rw [← Nat.add_assoc, eP_s, eC_at l _ _ i j hj, eG_at _ i j hj] at ih2
      by_cases c : loV (rd_T51 l (j : Int)) (i : Int) ≥ lev
      · simp (disch := omega) only [if_pos c, w64]
        rw [decide_eq_true c, Bool.true_and] at ih2
        by_cases d : loV (rd_T51 l (j : Int)) (((i : Int) + (T : Int) - 1) % (T : Int)) < lev
        · simp (disch := omega) only [if_pos d, if_pos]
          rw [decide_eq_true d, if_pos rfl] at ih2
          exact ih2
        · simp only [if_neg d]
          rw [decide_eq_false d, if_neg Bool.false_ne_true] at ih2
          exact ih2
      · simp (disch := omega) only [if_neg c, w64]
        rw [decide_eq_false (show ¬ lev ≤ loV (rd_T51 l (j : Int)) (i : Int) from c), Bool.false_and, if_neg Bool.false_ne_true] at ih2
        exact ih2
    · refine evs ?_
      simp (disch := omega) only [impl_EventsOf.l1, if_neg, w64]
      rw [before_s (T : Int) (by omega) i (by omega)] at ih
      rw [show i * l.length + l.length = (i + 1) * l.length by rw [Nat.add_mul, Nat.one_mul]]
      exact ih
  · refine evs ?_
    simp (disch := omega) only [impl_EventsOf.l0, if_neg]
    exact evo rfl
theorem allR_v (l : List S51) (v : ShsB l = true) : ((allR l).2 = 0 ∧ 1 ≤ (allR l).1 ∧ (allR l).1 ≤ 20000) ∨ (allR l).2 = 3 := by
  unfold allR
  rw [if_pos v]
  rcases ff_eq (allP l) (allN l l.length, (0 : Int)) (fun _ => ((0 : Int), (3 : Int))) l.length with ⟨h, e⟩ | ⟨m, _, _, _, e⟩
  · rw [e]; exact .inl ⟨rfl, allN_b l v l.length (Nat.le_refl _) h⟩
  · rw [e]; exact .inr rfl
theorem e_spec_EventsOf (l : List S51) (hw : ∀ x ∈ l, ShW x) (v : ShsB l = true) (lev : Int) (hv : 0 ≤ lev ∧ lev ≤ 20000) : Ev (fun k => spec_EventsOf.f k l lev) (evR l lev) := by
  obtain ⟨n1, n2, _⟩ := ShsB_e v
  unfold spec_EventsOf.f spec_l04Asked.f evR
  have h0 : Ev (fun k => (spec_l04Ok.f k l).bind fun t266 => (if t266 = true then ((spec_l04Index.f l 0).bind fun t267 => (if t267 = true then ((spec_l04Index.f l 0).bind fun t268 => (if t268 = true then ((spec_l00In.f lev 0 20000).bind fun t269 => (if t269 = true then ((spec_l04All.f k l).bind fun bt270 => (some (bt270.1, bt270.2))) else (some (0, 2)))) else (some (0, 2)))) else (some (0, 2)))) else (some (0, 1)))) (allR l) := by
    refine Ev.bind (e_spec_l04Ok l hw (by omega)) ?_
    simp only [if_pos v, spec_l04Index.f, e_spec_l00In, Option.bind_some]
    rw [w64 (by omega) (by omega), decide_eq_true (show (0 : Int) ≤ 0 ∧ (0 : Int) ≤ (l.length : Int) - 1 by omega), decide_eq_true hv]
    simp only [if_true]
    exact Ev.bind (e_spec_l04All l hw (by omega)) (evo rfl)
  refine Ev.bind h0 ?_
  rcases allR_v l v with ⟨h, h1, h2⟩ | h
  · refine ev_pos h ?_
    rw [if_pos h]
    obtain ⟨T, hT⟩ := Int.eq_ofNat_of_zero_le (show 0 ≤ (allR l).1 by omega)
    rw [hT, Int.toNat_natCast]
    exact e_spec_evL l hw v T (by omega) lev
  · refine ev_neg (by omega) (evo ?_)
    rw [if_neg (by omega)]
theorem e_impl_EventsOf (l : List S51) (hw : ∀ x ∈ l, ShW x) (v : ShsB l = true) (lev : Int) (hv : 0 ≤ lev ∧ lev ≤ 20000) : Ev (fun k => impl_EventsOf.f k l lev) (evR l lev) := by
  obtain ⟨n1, n2, _⟩ := ShsB_e v
  unfold impl_EventsOf.f impl_isRoom.f evR
  simp only [e_impl_inRange, Option.bind_some]
  rw [decide_eq_true hv]
  refine Ev.bind (e_impl_shaftsCode l hw (by omega)) ?_
  rcases allR_v l v with ⟨h, h1, h2⟩ | h
  · refine ev_pos h ?_
    rw [if_pos h, w64 (by omega) (by omega)]
    refine Ev.bind (e_impl_liftsOn l hw v ((allR l).1 - 1) (by omega)) ?_
    obtain ⟨T, hT⟩ := Int.eq_ofNat_of_zero_le (show 0 ≤ (allR l).1 by omega)
    rw [hT, Int.toNat_natCast]
    exact e_impl_evL l hw v T (by omega) lev
  · refine ev_neg (by omega) (evo ?_)
    rw [if_neg (by omega)]
theorem rdEV (l : List S34) (j : Nat) (h : j < l.length) : rd_T34 l (j : Int) = l[j] := by
  unfold rd_T34; rw [Int.toNat_natCast, List.getD_eq_getElem?_getD, List.getElem?_eq_getElem h]; rfl
theorem e_same (l : List S34) (hl : l.length ≤ 1000000) : Ev (fun k => spec_A2SameEvents.f k l l) true := by
  unfold spec_A2SameEvents.f
  simp only [if_true]
  refine ev_loop (fun k j => spec_A2SameEvents.l0 k l l (j : Int)) l.length true ?_ ?_
  · intro j hj ih
    refine evs ?_
    simp (disch := omega) only [spec_A2SameEvents.l0, if_pos, w64, beq_self_eq_true, Bool.not_true, Bool.or_false, Bool.false_eq_true, if_false]
    exact ih
  · refine evs ?_
    simp (disch := omega) only [spec_A2SameEvents.l0, if_neg]
    exact evo rfl
theorem eP_at (l : List S51) (T : Nat) (lev : Int) (n1 : 1 ≤ l.length) (j : Nat) (hj : j < (eP l (T : Int) lev (T * l.length)).length) : ∃ a b : Nat, a < T ∧ b < l.length ∧ lev ≤ loV (rd_T51 l (b : Int)) (a : Int) ∧ loV (rd_T51 l (b : Int)) (((a : Int) + (T : Int) - 1) % (T : Int)) < lev ∧ rd_T34 (eP l (T : Int) lev (T * l.length)) (j : Int) = ⟨(a : Int), (b : Int)⟩ ∧ (0 < j → ∃ a' b' : Nat, (a' < a ∨ (a' = a ∧ b' < b)) ∧ rd_T34 (eP l (T : Int) lev (T * l.length)) ((j - 1 : Nat) : Int) = ⟨(a' : Int), (b' : Int)⟩) := by
  have hF : j < ((List.range (T * l.length)).filter (eC l (T : Int) lev)).length := by unfold eP at hj; rw [List.length_map] at hj; exact hj
  have hm := List.getElem_mem hF
  rw [List.mem_filter] at hm
  obtain ⟨hq, hc⟩ := hm
  have hq := List.mem_range.1 hq
  have hx : rd_T34 (eP l (T : Int) lev (T * l.length)) (j : Int) = eG l.length (((List.range (T * l.length)).filter (eC l (T : Int) lev))[j]) := by rw [rdEV _ _ hj]; simp only [eP, List.getElem_map]
  have hp : ((List.range (T * l.length)).filter (eC l (T : Int) lev)).Pairwise (· < ·) := List.Pairwise.filter _ List.pairwise_lt_range
  have hp2 : 0 < j → ∃ q' : Nat, q' < ((List.range (T * l.length)).filter (eC l (T : Int) lev))[j] ∧ rd_T34 (eP l (T : Int) lev (T * l.length)) ((j - 1 : Nat) : Int) = eG l.length q' := fun h0 =>
    ⟨((List.range (T * l.length)).filter (eC l (T : Int) lev))[j - 1]'(by omega), (List.pairwise_iff_getElem.1 hp) (j - 1) j (by omega) hF (by omega), by rw [rdEV _ _ (by omega)]; simp only [eP, List.getElem_map]⟩
  generalize ((List.range (T * l.length)).filter (eC l (T : Int) lev))[j] = q at hq hc hx hp2
  unfold eC at hc
  rw [Bool.and_eq_true] at hc
  refine ⟨q / l.length, q % l.length, ?_, Nat.mod_lt _ (by omega), of_decide_eq_true hc.1, of_decide_eq_true hc.2, hx, fun h0 => ?_⟩
  · rw [Nat.div_lt_iff_lt_mul (by omega)]; exact hq
  · obtain ⟨q', h', e'⟩ := hp2 h0
    refine ⟨q' / l.length, q' % l.length, ?_, e'⟩
    have d1 : q' / l.length ≤ q / l.length := Nat.div_le_div_right (by omega)
    have e1 := Nat.div_add_mod q l.length
    have e2 := Nat.div_add_mod q' l.length
    by_cases e : q' / l.length = q / l.length
    · refine .inr ⟨e, ?_⟩
      rw [e] at e2
      omega
    · exact .inl (by omega)
theorem e_lawL (l : List S51) (hw : ∀ x ∈ l, ShW x) (v : ShsB l = true) (T : Nat) (hT : 1 ≤ T ∧ T ≤ 20000) (lev : Int) (hv : 0 ≤ lev) : Ev (fun k => laws_FnEvents.l0 k l lev (eP l (T : Int) lev (T * l.length)) (T : Int) 0) true := by
  obtain ⟨n1, n2, _⟩ := ShsB_e v
  have em : T * l.length ≤ 20000 * 6 := Nat.mul_le_mul hT.2 n2
  have el := eP_len l (T : Int) lev (T * l.length)
  refine ev_loop (fun k j => laws_FnEvents.l0 k l lev (eP l (T : Int) lev (T * l.length)) (T : Int) (j : Int)) (eP l (T : Int) lev (T * l.length)).length true ?_ ?_
  · intro j hj ih
    obtain ⟨a, b, m2, m1, c1, c2, hx, hp⟩ := eP_at l T lev n1 j hj
    generalize eP l (T : Int) lev (T * l.length) = due at *
    have main : Ev (fun k => laws_FnEvents.j2 k l lev due (T : Int) (j : Int) false (a : Int) (b : Int)) true := by
      refine evs ?_
      have bb := before_b (T : Int) (by omega) (a : Int)
      have A := e_impl_LiftsOn l hw (by omega) (a : Int)
      have B := e_impl_LiftsOn l hw (by omega) (((a : Int) + (T : Int) - 1) % (T : Int))
      have eA : liR l (a : Int) = (loL l (a : Int), 0) := by unfold liR; rw [if_pos v, if_pos (by omega)]
      have eB : liR l (((a : Int) + (T : Int) - 1) % (T : Int)) = (loL l (((a : Int) + (T : Int) - 1) % (T : Int)), 0) := by unfold liR; rw [if_pos v, if_pos bb]
      rw [eA] at A
      rw [eB] at B
      simp only [laws_FnEvents.j2, Bool.false_eq_true, if_false]
      refine Ev.bind A ?_
      refine ev_neg (by omega) ?_
      rw [w64 (x := (a : Int) + (T : Int)) (by omega) (by omega), w64 (x := (a : Int) + (T : Int) - 1) (by omega) (by omega), tmod_pos (by omega)]
      refine Ev.bind B ?_
      have a1 := loL_len l (a : Int)
      have a2 := loL_len l (((a : Int) + (T : Int) - 1) % (T : Int))
      dsimp only
      refine ev_pos rfl (ev_pos rfl (ev_pos (by omega) (ev_pos (by omega) (ev_pos (by omega) (ev_pos (by omega) ?_)))))
      rw [rd_loL l _ _ m1, rd_loL l _ _ m1]
      refine ev_neg (by omega) (ev_pos (by omega) (ev_neg (by omega) ?_))
      rw [w64 (by omega) (by omega)]
      exact ih
    refine evs ?_
    simp only [laws_FnEvents.l0]
    refine ev_pos (by omega) (ev_pos (by omega) ?_)
    rw [hx]
    dsimp only
    refine ev_neg (by omega) (ev_neg (by omega) (ev_neg (by omega) (ev_neg (by omega) ?_)))
    by_cases h0 : 0 < j
    · obtain ⟨a', b', hq', hx'⟩ := hp h0
      have ej : wrap64 ((j : Int) - 1) = ((j - 1 : Nat) : Int) := by rw [w64 (by omega) (by omega)]; omega
      refine ev_pos (by omega) ?_
      rw [ej]
      refine ev_pos (by omega) (ev_pos (by omega) ?_)
      rw [hx']
      dsimp only
      refine ev_neg (by omega) ?_
      by_cases e : (a : Int) = (a' : Int)
      · refine ev_pos e ?_
        rw [decide_eq_false (by omega)]
        exact main
      · exact ev_neg e main
    · exact ev_neg (by omega) main
  · refine evs ?_
    simp only [laws_FnEvents.l0]
    refine ev_neg (by omega) ?_
    by_cases c : lev > 0
    · exact ev_pos c (evo rfl)
    · refine ev_neg c (evo ?_)
      obtain rfl : lev = 0 := by omega
      have hz : (eP l (T : Int) 0 (T * l.length)).length = 0 := by
        apply Nat.eq_zero_of_not_pos
        intro h
        obtain ⟨a, b, m2, m1, c1, c2, hx, hp⟩ := eP_at l T 0 n1 0 h
        have ok := ShsB_i v (b : Int) (by omega) (by omega)
        have r := ok.2.2.1.rdb (soV (rd_T51 l (b : Int)) (((a : Int) + (T : Int) - 1) % (T : Int)))
        unfold loV at c2
        omega
      rw [hz]
      rfl
theorem a2At_b (l : List Int) (hu : U8 l) : ∃ v, laws_a2At.f l 0 12 = some v ∧ 0 ≤ v ∧ v ≤ 11 := by
  unfold laws_a2At.f
  have r := hu.rdb 0
  by_cases c : 0 ≥ (l.length : Int)
  · exact ⟨0, by rw [if_pos c], by omega, by omega⟩
  · have b := emod_b (rd l 0) (show (0 : Int) < 12 by omega)
    refine ⟨rd l 0 % 12, ?_, by omega, by omega⟩
    simp (disch := omega) only [if_neg, if_pos]
    rw [w64 (by omega) (by omega), tmod_pos r.1]
set_option maxHeartbeats 4000000 in
theorem FnEvents : laws_FnEvents.Pure := by
  intro l0 l1 hm0 hb0 w0 hm1 hb1 w1
  have u0 := U8.of_wf w0
  have u1 := U8.of_wf w1
  refine ev_rounds ?_
  unfold laws_FnEvents.f laws_a2Long.f
  by_cases c0 : (l0.length : Int) > 3000
  · simp only [if_pos c0, Option.bind_some, if_true]; exact evo rfl
  by_cases c1 : (l1.length : Int) > 3000
  · simp only [if_neg c0, decide_eq_true c1, Option.bind_some, if_true]; exact evo rfl
  simp only [if_neg c0, decide_eq_false c1, Option.bind_some, Bool.false_eq_true, if_false]
  obtain ⟨l, hs, v, hw⟩ := e_spec_A2Shafts l0 u0 (by omega)
  obtain ⟨lev, hl, b0, b1⟩ := a2At_b l1 u1
  obtain ⟨n1, n2, _⟩ := ShsB_e v
  have B := e_impl_EventsOf l hw v lev (by omega)
  have A := e_spec_EventsOf l hw v lev (by omega)
  refine Ev.bind hs ?_
  simp only [hl, Option.bind_some]
  refine Ev.bind B (Ev.bind A ?_)
  refine Ev.bind (Ev.bind (e_spec_l04All l hw (by omega)) (evo rfl)) ?_
  refine ev_pos rfl ?_
  rcases allR_v l v with ⟨h, h1, h2⟩ | h
  · obtain ⟨T, hT⟩ := Int.eq_ofNat_of_zero_le (show 0 ≤ (allR l).1 by omega)
    have eE : evR l lev = (eP l (T : Int) lev (T * l.length), 0) := by unfold evR; rw [if_pos h, hT, Int.toNat_natCast]
    have em : T * l.length ≤ 20000 * 6 := Nat.mul_le_mul (by omega) n2
    have el := eP_len l (T : Int) lev (T * l.length)
    rw [eE]
    dsimp only
    refine Ev.bind (e_same _ (by omega)) (ev_pos rfl ?_)
    rw [h, hT]
    refine evs ?_
    simp only [laws_FnEvents.j0]
    refine ev_neg (by decide) ?_
    simp only [if_true]
    exact e_lawL l hw v T (by omega) lev b0
  · have eE : evR l lev = ([], 3) := by unfold evR; rw [if_neg (by omega), h]
    rw [eE]
    dsimp only
    refine Ev.bind (e_same _ (by simp)) (ev_pos rfl ?_)
    rw [h]
    refine evs ?_
    simp only [laws_FnEvents.j0]
    exact ev_neg (by decide) (ev_neg (by decide) (evo rfl))

end Go.Proofs.Ytlabebaahlbkhaa.Pure
