/- The pure statement of the law FnExactMachineFor: the program's function and the reference's tell the same of every input, by plain lemmas on numbers, lists and rounds; no further condition. -/
import Derived.Test.YtnjcmalmnofbmaaXFnExactMachineForx
import Derived.Test.YtnjcmalmnofbmaaXLib
namespace Go.Proofs.Ytnjcmalmnofbmaa.Pure
open Go.RowKit Go.Proofs.Ytnjcmalmnofbmaa.XFnExactMachineFor Go.Proofs.Ytnjcmalmnofbmaa.XLib Go.Proofs.YtnjcmalmnofbmaaW.PrintWords Go.Proofs.YtnjcmalmnofbmaaW.PrintLast Go.Proofs.YtnjcmalmnofbmaaW.PrintMore
set_option maxRecDepth 100000
set_option linter.unusedVariables false
set_option linter.unusedSimpArgs false
/-! base_spec -/
theorem e_spec_l00In (a b c : Int) : spec_l00In.f a b c = some (decide (b ≤ a ∧ a ≤ c)) := by
  unfold spec_l00In.f
  by_cases h : b ≤ a <;> simp [h]
theorem e_spec_l01Steps (a : Int) : spec_l01Steps.f a = some (decide (8 ≤ a ∧ a ≤ 360)) := by
  unfold spec_l01Steps.f; rw [e_spec_l00In]; rfl

/-! base_impl -/
theorem e_impl_inRange (a b c : Int) : impl_inRange.f a b c = some (decide (b ≤ a ∧ a ≤ c)) := by
  unfold impl_inRange.f
  by_cases h : b ≤ a <;> simp [h]
theorem e_impl_isSteps (a : Int) : impl_isSteps.f a = some (decide (8 ≤ a ∧ a ≤ 360)) := by
  unfold impl_isSteps.f; rw [e_impl_inRange]; rfl

/-! markok -/
def MarkOk (a b : Int) : Prop := (0 ≤ a ∧ a ≤ 63) ∧ (0 ≤ b ∧ b ≤ 63)
instance (a b : Int) : Decidable (MarkOk a b) := by unfold MarkOk; infer_instance
theorem e_spec_l07Mark (a b : Int) (h0 : -32768 ≤ a ∧ a ≤ 32767) (h1 : -32768 ≤ b ∧ b ≤ 32767) : spec_l07Mark.f a b = some (decide (MarkOk a b)) := by
  unfold spec_l07Mark.f
  simp (disch := omega) only [w64, e_spec_l00In, Option.bind_some]
  by_cases c : 0 ≤ a ∧ a ≤ 63
  · rw [decide_eq_true c, if_pos rfl]
    exact congrArg some (decide_eq_decide.mpr ⟨fun h => ⟨c, h⟩, fun h => h.2⟩)
  · rw [decide_eq_false c, if_neg (by decide)]
    exact congrArg some (decide_eq_false fun h => c h.1).symm
theorem e_impl_ValidMark (a b : Int) (h0 : -32768 ≤ a ∧ a ≤ 32767) (h1 : -32768 ≤ b ∧ b ≤ 32767) : impl_ValidMark.f a b = some (decide (MarkOk a b)) := by
  unfold impl_ValidMark.f
  simp (disch := omega) only [w64, e_impl_inRange, Option.bind_some]
  by_cases c : 0 ≤ a ∧ a ≤ 63
  · rw [decide_eq_true c, if_pos rfl]
    exact congrArg some (decide_eq_decide.mpr ⟨fun h => ⟨c, h⟩, fun h => h.2⟩)
  · rw [decide_eq_false c, if_neg (by decide)]
    exact congrArg some (decide_eq_false fun h => c h.1).symm

/-! find2 -/
theorem ev_find2 {ρ : Type} (L : Nat → Nat → Option ρ) (p : Nat → Bool) (n : Nat) (r1 : ρ) (r2 : Nat → ρ)
    (ht : ∀ j r, j < n → p j = true → Ev (fun k => L k (j + 1)) r → Ev (fun k => L k j) r) (hf : ∀ j, j < n → p j = false → Ev (fun k => L k j) (r2 j))
    (he : (∀ j, j < n → p j = true) → Ev (fun k => L k n) r1) : Ev (fun k => L k 0) (ff p r1 r2 n 0) := by
  suffices H : ∀ d j, j + d = n → (∀ i, i < j → p i = true) → Ev (fun k => L k j) (ff p r1 r2 d j) from H n 0 (by omega) (fun i hi => by omega)
  intro d
  induction d with
  | zero => intro j hj hp; obtain rfl : j = n := by omega
            exact he hp
  | succ d ih =>
    intro j hj hp
    unfold ff
    by_cases c : p j = true
    · rw [if_pos c]; exact ht j _ (by omega) c (ih (j + 1) (by omega) (fun i hi => by by_cases e : i = j; · rw [e]; exact c
                                                                                      · exact hp i (by omega)))
    · rw [if_neg c]; exact hf j (by omega) (by simpa using c)
theorem ff_map {ρ σ : Type} (f : ρ → σ) (p : Nat → Bool) (r1 : ρ) (r2 : Nat → ρ) (d j : Nat) : f (ff p r1 r2 d j) = ff p (f r1) (fun i => f (r2 i)) d j := by
  induction d generalizing j with
  | zero => rfl
  | succ d ih => unfold ff; split
                 · exact ih _
                 · rfl

/-! impl_first -/
theorem e_impl_firstCode (l : List Int) (hl : l.length ≤ 10000000) : Ev (fun k => impl_firstCode.f k l) (fnz l) := by
  unfold impl_firstCode.f
  suffices H : ∀ d j, j + d = l.length → Ev (fun k => impl_firstCode.l0 k l (l.length : Int) (j : Int)) (fnz (l.drop j)) from by
    have := H l.length 0 (by omega); simpa using this
  intro d
  induction d with
  | zero =>
    intro j hj
    refine evs ?_
    simp (disch := omega) only [impl_firstCode.l0, if_neg]
    exact evo (by rw [List.drop_of_length_le (by omega)]; rfl)
  | succ d ih =>
    intro j hj
    refine evs ?_
    have hj2 : j < l.length := by omega
    simp (disch := omega) only [impl_firstCode.l0, if_pos, w64]
    have e : l.drop j = rd l (j : Int) :: l.drop (j + 1) := by
      rw [List.drop_eq_getElem_cons hj2, rd_nat]; simp [List.getD_eq_getElem?_getD, hj2]
    rw [e]; unfold fnz
    by_cases c : rd l (j : Int) = 0
    · simp only [if_pos c]; exact ih (j + 1) (by omega)
    · simp only [if_neg c]; exact evo rfl
theorem e_impl_codeIf (b : Bool) (c : Int) : impl_codeIf.f b c = some (if b = true then c else 0) := by
  unfold impl_codeIf.f; split <;> rfl

/-! laws_eqstops -/
theorem e_laws_eqMark3 (a b : Int) : Ev (fun k => laws_eqMark.f k a b a b) true := by
  unfold laws_eqMark.f
  refine evs (evs (evs ?_))
  simp (disch := omega) only [laws_eqMark.l0, if_pos, if_neg, w64, if_true]
  exact evo rfl
theorem rdSP (l : List S118) (j : Nat) (h : j < l.length) : rd_T118 l (j : Int) = l[j] := by
  unfold rd_T118; rw [Int.toNat_natCast, List.getD_eq_getElem?_getD, List.getElem?_eq_getElem h]; rfl
theorem rdSP_map (f : Nat → S118) (n : Nat) (i : Int) (h0 : 0 ≤ i) (h1 : i < n) : rd_T118 ((List.range n).map f) i = f i.toNat := by
  unfold rd_T118
  have : i.toNat < n := by omega
  simp [List.getD_eq_getElem?_getD, this]
theorem e_laws_eqStopS (l : List S118) (hl : l.length ≤ 1048576) : Ev (fun k => laws_eqStopS.f k l l) true := by
  unfold laws_eqStopS.f
  simp only [if_true]
  have := ev_loop (fun k j => laws_eqStopS.l0 k l l (j : Int)) l.length true ?_ ?_
  · exact this
  · intro j hj ih
    refine evs ?_
    simp (disch := omega) only [laws_eqStopS.l0, laws_eqStop.f, if_pos, w64]
    refine Ev.bind (a := true) (Ev.bind (e_laws_eqMark3 _ _) ?_) ?_
    · simp only [if_true, bne_self_eq_false, Bool.false_eq_true, if_false]; exact evo rfl
    · simp only [if_true]; exact ih
  · refine evs ?_
    simp (disch := omega) only [laws_eqStopS.l0, if_neg]
    exact evo rfl

/-! MachineFor -/
def MkW (x : S118) : Prop := (-32768 ≤ x.f0.f0 ∧ x.f0.f0 ≤ 32767) ∧ (-32768 ≤ x.f0.f1 ∧ x.f0.f1 ≤ 32767)
theorem rdSP_w (l : List S118) (hw : ∀ x ∈ l, MkW x) (j : Nat) (h : j < l.length) : MkW (rd_T118 l (j : Int)) := by
  rw [rdSP l j h]; exact hw _ (List.getElem_mem h)
def stpP (l : List S118) (j : Nat) : Bool := decide (MarkOk (rd_T118 l (j : Int)).f0.f0 (rd_T118 l (j : Int)).f0.f1)
def marksB (l : List S118) : Bool := ff (stpP l) true (fun _ => false) l.length 0
def mfX (l : List S118) (j : Nat) : Int := if (j : Int) < l.length then (rd_T118 l (j : Int)).f0.f0 else 0
def mfY (l : List S118) (j : Nat) : Int := if (j : Int) < l.length then (rd_T118 l (j : Int)).f0.f1 else 0
def mfP (l : List S118) (j : Nat) : Int := if (j : Int) < l.length then (if (rd_T118 l (j : Int)).f1 = true then 0 else 1) else 1
def mfM (l : List S118) (n : Nat) : List Int × List Int × List Int := ((List.range n).map (mfX l), (List.range n).map (mfY l), (List.range n).map (mfP l))
def mfV (l : List S118) (a : Int) : List Int × List Int × List Int × Int := if (8 ≤ a ∧ a ≤ 360) ∧ (l.length : Int) ≤ a then ((mfM l a.toNat).1, (mfM l a.toNat).2.1, (mfM l a.toNat).2.2, 0) else ([], [], [], 2)
def mfR (l : List S118) (a : Int) : List Int × List Int × List Int × Int := if marksB l = true then mfV l a else ([], [], [], 1)
theorem mfR_len (l : List S118) (a : Int) : (mfR l a).1.length ≤ 1048576 ∧ (mfR l a).2.1.length ≤ 1048576 ∧ (mfR l a).2.2.1.length ≤ 1048576 := by
  unfold mfR mfV mfM
  split
  · split
    · simp only [List.length_map, List.length_range]; omega
    · exact ⟨Nat.zero_le _, Nat.zero_le _, Nat.zero_le _⟩
  · exact ⟨Nat.zero_le _, Nat.zero_le _, Nat.zero_le _⟩
theorem e_spec_l07For (l : List S118) (a : Int) (ha : 0 ≤ a ∧ a ≤ 360) (hl : l.length ≤ 1048576) : Ev (fun k => spec_l07For.f k l a) (mfM l a.toNat) := by
  unfold spec_l07For.f
  have := ev_loop (fun k j => spec_l07For.l0 k l a (j : Int) ((List.range j).map (mfX l)) ((List.range j).map (mfY l)) ((List.range j).map (mfP l))) a.toNat (mfM l a.toNat) ?_ ?_
  · exact this
  · intro j hj ih
    refine evs ?_
    have e1 : ((List.range j).map (mfX l)).length = j := map_len _ _
    have e2 : ((List.range j).map (mfY l)).length = j := map_len _ _
    have e3 : ((List.range j).map (mfP l)).length = j := map_len _ _
    rw [map_snoc (mfX l), map_snoc (mfY l), map_snoc (mfP l)] at ih
    unfold mfX mfY mfP at ih ⊢
    unfold mfX at e1
    unfold mfY at e2
    unfold mfP at e3
    by_cases c : (j : Int) < l.length
    · simp only [if_pos c] at ih
      by_cases d : (rd_T118 l (j : Int)).f1 = true
      · simp only [if_pos d] at ih
        simp (disch := omega) only [spec_l07For.l0, if_pos, w64, d, e1, e2, e3, if_true]
        exact ih
      · simp only [if_neg d] at ih
        simp (disch := omega) only [spec_l07For.l0, if_pos, w64, if_neg d, e1, e2, e3]
        exact ih
    · simp only [if_neg c] at ih
      simp (disch := omega) only [spec_l07For.l0, if_pos, if_neg, w64, e1, e2, e3]
      exact ih
  · refine evs ?_
    simp (disch := omega) only [spec_l07For.l0, if_neg]
    exact evo rfl
theorem e_impl_machineFor (l : List S118) (a : Int) (ha : 0 ≤ a ∧ a ≤ 360) (hl : l.length ≤ 1048576) : Ev (fun k => impl_machineFor.f k l a) (mfM l a.toNat) := by
  unfold impl_machineFor.f
  have := ev_loop (fun k j => impl_machineFor.l0 k l a (j : Int) ((List.range j).map (mfX l)) ((List.range j).map (mfY l)) ((List.range j).map (mfP l))) a.toNat (mfM l a.toNat) ?_ ?_
  · exact this
  · intro j hj ih
    have e1 : ((List.range j).map (mfX l)).length = j := map_len _ _
    have e2 : ((List.range j).map (mfY l)).length = j := map_len _ _
    have e3 : ((List.range j).map (mfP l)).length = j := map_len _ _
    have last : ∀ (x y p : Int) (b : Bool), x = mfX l j → y = mfY l j → p = mfP l j → Ev (fun k => impl_machineFor.j2 k l p a (j : Int) ((List.range j).map (mfX l)) ((List.range j).map (mfY l)) ((List.range j).map (mfP l)) x y b) (mfM l a.toNat) := by
      intro x y p b hx hy hp
      subst hx hy hp
      refine evs ?_
      simp only [impl_machineFor.j2, Option.bind_some, e1, e2, e3, List.length_cons, List.length_nil]
      simp (disch := omega) only [if_pos, w64]
      rw [← map_snoc (mfX l), ← map_snoc (mfY l), ← map_snoc (mfP l)]
      exact ih
    refine evs ?_
    simp (disch := omega) only [impl_machineFor.l0, impl_isPlace.f, e_impl_inRange, Option.bind_some, if_pos, w64]
    by_cases c : (j : Int) < l.length
    · rw [decide_eq_true (show 0 ≤ (j : Int) ∧ (j : Int) ≤ (l.length : Int) - 1 by omega)]
      simp only [if_true, if_pos c]
      refine evs ?_
      simp only [impl_machineFor.j1]
      by_cases d : (rd_T118 l (j : Int)).f1 = true
      · simp only [if_pos d]
        exact last _ _ _ _ (by unfold mfX; rw [if_pos c]) (by unfold mfY; rw [if_pos c]) (by unfold mfP; rw [if_pos c, if_pos d])
      · simp only [if_neg d]
        exact last _ _ _ _ (by unfold mfX; rw [if_pos c]) (by unfold mfY; rw [if_pos c]) (by unfold mfP; rw [if_pos c, if_neg d])
    · rw [decide_eq_false (show ¬ (0 ≤ (j : Int) ∧ (j : Int) ≤ (l.length : Int) - 1) by omega)]
      simp only [Bool.false_eq_true, if_false]
      refine evs ?_
      simp only [impl_machineFor.j1, Bool.false_eq_true, if_false]
      exact last _ _ _ _ (by unfold mfX; rw [if_neg c]) (by unfold mfY; rw [if_neg c]) (by unfold mfP; rw [if_neg c])
  · refine evs ?_
    simp (disch := omega) only [impl_machineFor.l0, if_neg]
    exact evo rfl
theorem e_spec_MachineFor (l : List S118) (hw : ∀ x ∈ l, MkW x) (hl : l.length ≤ 1048576) (a : Int) (i0 : -9223372036854775808 ≤ a ∧ a ≤ 9223372036854775807) : Ev (fun k => spec_MachineFor.f k l a) (mfR l a) := by
  unfold spec_MachineFor.f mfR marksB
  have e1 := ff_map (fun b : Bool => if b = true then mfV l a else (([] : List Int), ([] : List Int), ([] : List Int), (1 : Int))) (stpP l) true (fun _ => false) l.length 0
  rw [show (if ff (stpP l) true (fun _ => false) l.length 0 = true then mfV l a else (([] : List Int), ([] : List Int), ([] : List Int), (1 : Int))) = ff (stpP l) (mfV l a) (fun _ => (([] : List Int), ([] : List Int), ([] : List Int), (1 : Int))) l.length 0 from e1]
  refine ev_find (fun k j => spec_MachineFor.l0 k l a (j : Int)) (stpP l) l.length _ _ ?_ ?_ ?_
  · intro j r hj hp ih
    refine evs ?_
    obtain ⟨w0, w1⟩ := rdSP_w l hw j hj
    simp (disch := omega) only [spec_MachineFor.l0, if_pos, w64, e_spec_l07Mark _ _ w0 w1, Option.bind_some]
    unfold stpP at hp
    rw [hp]
    exact ih
  · intro j hj hp
    refine evs ?_
    obtain ⟨w0, w1⟩ := rdSP_w l hw j hj
    simp (disch := omega) only [spec_MachineFor.l0, if_pos, w64, e_spec_l07Mark _ _ w0 w1, Option.bind_some]
    unfold stpP at hp
    rw [hp]
    exact evo rfl
  · refine evs ?_
    simp (disch := omega) only [spec_MachineFor.l0, if_neg, e_spec_l01Steps, Option.bind_some]
    unfold mfV
    by_cases c : 8 ≤ a ∧ a ≤ 360
    · simp only [decide_eq_true c, if_true]
      by_cases d : (l.length : Int) > a
      · simp only [if_pos d, if_neg (show ¬ ((8 ≤ a ∧ a ≤ 360) ∧ (l.length : Int) ≤ a) by omega)]; exact evo rfl
      · simp only [if_neg d, if_pos (show (8 ≤ a ∧ a ≤ 360) ∧ (l.length : Int) ≤ a by omega)]
        exact Ev.bind (e_spec_l07For l a (by omega) hl) (evo rfl)
    · simp only [decide_eq_false c, Bool.false_eq_true, if_false, if_neg (show ¬ ((8 ≤ a ∧ a ≤ 360) ∧ (l.length : Int) ≤ a) by omega)]; exact evo rfl
theorem e_impl_Contains (l : List S118) (hw : ∀ x ∈ l, MkW x) (hl : l.length ≤ 1048576) : Ev (fun k => slices_ContainsFunc_at_impl_MachineFor_c1.f k l) (!marksB l) := by
  unfold slices_ContainsFunc_at_impl_MachineFor_c1.f slices_IndexFunc_at_impl_MachineFor_c1.f
  have := ev_find (fun k j => slices_IndexFunc_at_impl_MachineFor_c1.l0 k l (l.length : Int) (j : Int)) (stpP l) l.length (-1 : Int) (fun j => (j : Int)) ?_ ?_ ?_
  · refine Ev.bind this (evo ?_)
    have e := ff_map (fun x : Int => decide (x ≥ 0)) (stpP l) (-1 : Int) (fun j => (j : Int)) l.length 0
    rw [e]
    have e2 := ff_map (fun b : Bool => !b) (stpP l) true (fun _ => false) l.length 0
    unfold marksB
    rw [e2]
    have e3 : (fun i : Nat => decide ((i : Int) ≥ 0)) = fun _ : Nat => !false := by
      funext i; exact decide_eq_true (show (i : Int) ≥ 0 by omega)
    rw [e3]; rfl
  · intro j r hj hp ih
    refine evs ?_
    obtain ⟨w0, w1⟩ := rdSP_w l hw j hj
    simp (disch := omega) only [slices_IndexFunc_at_impl_MachineFor_c1.l0, impl_MachineFor_c1.f, if_pos, w64, e_impl_ValidMark _ _ w0 w1, Option.bind_some]
    unfold stpP at hp
    rw [hp]
    exact ih
  · intro j hj hp
    refine evs ?_
    obtain ⟨w0, w1⟩ := rdSP_w l hw j hj
    simp (disch := omega) only [slices_IndexFunc_at_impl_MachineFor_c1.l0, impl_MachineFor_c1.f, if_pos, w64, e_impl_ValidMark _ _ w0 w1, Option.bind_some]
    unfold stpP at hp
    rw [hp]
    exact evo rfl
  · refine evs ?_
    simp (disch := omega) only [slices_IndexFunc_at_impl_MachineFor_c1.l0, if_neg]
    exact evo rfl
theorem e_impl_MachineFor (l : List S118) (hw : ∀ x ∈ l, MkW x) (hl : l.length ≤ 1048576) (a : Int) (i0 : -9223372036854775808 ≤ a ∧ a ≤ 9223372036854775807) : Ev (fun k => impl_MachineFor.f k l a) (mfR l a) := by
  unfold impl_MachineFor.f mfR mfV
  refine Ev.bind (e_impl_Contains l hw hl) ?_
  simp only [e_impl_codeIf, e_impl_isSteps, Option.bind_some]
  by_cases m : marksB l = true
  · simp only [m, Bool.not_true, Bool.false_eq_true, if_false, if_true]
    by_cases c : 8 ≤ a ∧ a ≤ 360
    · simp only [decide_eq_true c, if_true]
      by_cases d : (l.length : Int) > a
      · simp only [decide_eq_true d, if_true, if_neg (show ¬ ((8 ≤ a ∧ a ≤ 360) ∧ (l.length : Int) ≤ a) by omega)]
        exact Ev.bind (e_impl_firstCode _ (by simp)) (ev_neg (by simp [fnz]) (evo rfl))
      · simp only [decide_eq_false d, Bool.false_eq_true, if_false, if_pos (show (8 ≤ a ∧ a ≤ 360) ∧ (l.length : Int) ≤ a by omega)]
        exact Ev.bind (e_impl_firstCode _ (by simp)) (ev_pos (by simp [fnz]) (Ev.bind (e_impl_machineFor l a (by omega) hl) (evo rfl)))
    · simp only [decide_eq_false c, Bool.false_eq_true, if_false, if_neg (show ¬ ((8 ≤ a ∧ a ≤ 360) ∧ (l.length : Int) ≤ a) by omega)]
      exact Ev.bind (e_impl_firstCode _ (by simp)) (ev_neg (by simp [fnz]) (evo rfl))
  · rw [Bool.eq_false_iff.mpr m]
    simp only [Bool.not_false, if_true, Bool.false_eq_true, if_false]
    by_cases c : 8 ≤ a ∧ a ≤ 360
    · simp only [decide_eq_true c, if_true]
      exact Ev.bind (e_impl_firstCode _ (by simp)) (ev_neg (by simp [fnz]) (evo rfl))
    · simp only [decide_eq_false c, Bool.false_eq_true, if_false]
      exact Ev.bind (e_impl_firstCode _ (by simp)) (ev_neg (by simp [fnz]) (evo rfl))

/-! laws_stopsin -/
def spConv (x : S155) : S118 := ⟨⟨x.f0.f0, x.f0.f1⟩, x.f1⟩
theorem rdSPIN (l : List S155) (j : Nat) (h : j < l.length) : rd_T155 l (j : Int) = l[j] := by
  unfold rd_T155; rw [Int.toNat_natCast, List.getD_eq_getElem?_getD, List.getElem?_eq_getElem h]; rfl
theorem e_laws_szStopS (l : List S155) (hl : l.length ≤ maxLen) : ∃ r, laws_szStopS.f l 1048576 = some r ∧ (0 ≤ r → l.length ≤ 1048576) := by
  have hm : maxLen ≤ 9223372036854775807 := by decide
  unfold laws_szStopS.f
  rw [w64 (by omega) (by omega)]
  by_cases c : 1048576 - (l.length : Int) < 0
  · exact ⟨-1, by simp only [if_pos c], fun h => by omega⟩
  · exact ⟨1048576 - (l.length : Int), by simp only [if_neg c], fun h => by omega⟩
theorem e_laws_toMark2 (a b : Int) : Ev (fun k => laws_toMark.f k a b) (a, b) := by
  unfold laws_toMark.f
  refine evs (evs (evs ?_))
  simp (disch := omega) only [laws_toMark.l0, if_pos, if_neg, w64, if_true]
  exact evo rfl
theorem e_laws_toStopS (l : List S155) (hl : l.length ≤ 1048576) : Ev (fun k => laws_toStopS.f k l) (l.map spConv) := by
  unfold laws_toStopS.f
  simp (disch := omega) only [if_pos]
  have := ev_loop (fun k j => laws_toStopS.l0 k l ((l.map spConv).take j ++ List.replicate (l.length - j) z118) (j : Int)) l.length (l.map spConv) ?_ ?_
  · simpa using this
  · intro j hj ih
    refine evs ?_
    have er := rdSPIN l j hj
    have e : (((l.map spConv).take j ++ List.replicate (l.length - j) z118).length : Int) = l.length := by simp; omega
    have e2 : ((l.map spConv).take j ++ List.replicate (l.length - j) z118).set ((j : Int)).toNat (spConv l[j]) = (l.map spConv).take (j + 1) ++ List.replicate (l.length - (j + 1)) z118 := by
      have e3 : l.length - j = (l.length - (j + 1)) + 1 := by omega
      rw [e3, List.replicate_succ, Int.toNat_natCast, set_app _ _ _ _ _ (by simp; omega), List.take_succ_eq_append_getElem (by simpa using hj), List.append_assoc, List.singleton_append, List.getElem_map]
    simp (disch := omega) only [laws_toStopS.l0, laws_toStop.f, if_pos, er, w64, e]
    refine Ev.bind (a := (l[j].f0.f0, l[j].f0.f1, l[j].f1)) (Ev.bind (e_laws_toMark2 _ _) (evo rfl)) ?_
    simp only [show (⟨⟨l[j].f0.f0, l[j].f0.f1⟩, l[j].f1⟩ : S118) = spConv l[j] from rfl, e2]
    exact ih
  · refine evs ?_
    simp (disch := omega) only [laws_toStopS.l0, if_neg]
    exact evo (by simp [List.take_of_length_le])

/-! laws_markstops -/
def mkS (m : Int) : S118 := ⟨⟨IntKind.i16.wrap m, IntKind.i16.wrap (m + 1)⟩, (Int.tmod (m + 1 + 1) 3 == 0)⟩
def markS (m : Int) (n : Nat) : List S118 := (List.range n).map fun j : Nat => mkS (m + 3 * (j : Int))
theorem markS_len (m : Int) (n : Nat) : (markS m n).length = n := by simp [markS]
set_option maxHeartbeats 2000000 in
theorem e_laws_markStopS (l : List S118) (hl : l.length ≤ 1048576) (m : Int) (h0 : 0 ≤ m) (h1 : m ≤ 1000000000) : Ev (fun k => laws_markStopS.f k l m) (m + 3 * (l.length : Int), markS m l.length) := by
  unfold laws_markStopS.f
  have := ev_loop (fun k j => laws_markStopS.l0 k (markS m j ++ l.drop j) (m + 3 * (j : Int)) (j : Int)) l.length (m + 3 * (l.length : Int), markS m l.length) ?_ ?_
  · simpa [markS] using this
  · intro j hj ih
    refine evs ?_
    have ej : ∀ x : S118, (markS m j ++ l.drop j).set j x = markS m j ++ x :: l.drop (j + 1) := by
      intro x; rw [List.drop_eq_getElem_cons hj, set_app _ _ _ _ _ (markS_len _ _)]
    have ej2 : ∀ x y : S118, (markS m j ++ x :: l.drop (j + 1)).set j y = markS m j ++ y :: l.drop (j + 1) := by
      intro x y; rw [set_app _ _ _ _ _ (markS_len _ _)]
    have er : ∀ x : S118, rd_T118 (markS m j ++ x :: l.drop (j + 1)) (j : Int) = x := by
      intro x; rw [rdSP _ _ (by simp [markS_len]), List.getElem_append_right (by rw [markS_len]; omega)]; simp [markS_len]
    have e : ((markS m j ++ l.drop j).length : Int) = l.length := by simp [markS_len]; omega
    have e3 : ∀ x : S118, ((markS m j ++ x :: l.drop (j + 1)).length : Int) = l.length := by intro x; simp [markS_len]; omega
    simp (disch := omega) only [laws_markStopS.l0, if_pos, e]
    refine evs ?_
    simp (disch := omega) only [laws_markStopS.l1, if_pos, e, Int.toNat_natCast, ej, er, w64, if_true, Int.zero_add]
    refine evs ?_
    simp (disch := omega) only [laws_markStopS.l1, if_pos, if_neg, e3, Int.toNat_natCast, ej2, er, w64, if_true]
    refine evs ?_
    simp (disch := omega) only [laws_markStopS.l1, if_pos, if_neg, e3, Int.toNat_natCast, ej2, er, w64]
    have e5 : markS m j ++ mkS (m + 3 * (j : Int)) :: l.drop (j + 1) = markS m (j + 1) ++ l.drop (j + 1) := by
      unfold markS; rw [map_snoc]; simp
    rw [show (⟨⟨IntKind.i16.wrap (m + 3 * (j : Int)), IntKind.i16.wrap (m + 3 * (j : Int) + 1)⟩, (Int.tmod (m + 3 * (j : Int) + 1 + 1) 3 == 0)⟩ : S118) = mkS (m + 3 * (j : Int)) from rfl, e5, show m + 3 * (j : Int) + 1 + 1 + 1 = m + 3 * ((j + 1 : Nat) : Int) by omega]
    exact ih
  · refine evs ?_
    have e : ((markS m l.length ++ l.drop l.length).length : Int) = l.length := by simp [markS_len]
    simp (disch := omega) only [laws_markStopS.l0, if_neg, e]
    exact evo (by simp)
set_option maxHeartbeats 2000000 in

/-! laws_cam -/
theorem e_laws_eqCam (l : List Int) (hl : l.length ≤ 1048576) : Ev (fun k => laws_eqCam.f k l l) true := by
  unfold laws_eqCam.f
  simp only [if_true]
  have := ev_loop (fun k j => laws_eqCam.l0 k l l (j : Int)) l.length true ?_ ?_
  · exact this
  · intro j hj ih
    refine evs ?_
    simp (disch := omega) only [laws_eqCam.l0, if_pos, if_true, w64]
    exact ih
  · refine evs ?_
    simp (disch := omega) only [laws_eqCam.l0, if_neg]
    exact evo rfl

/-! laws_mach -/
theorem e_laws_eqMachine (x y p : List Int) (lx : x.length ≤ 1048576) (ly : y.length ≤ 1048576) (lp : p.length ≤ 1048576) : Ev (fun k => laws_eqMachine.f k x y p x y p) true := by
  unfold laws_eqMachine.f
  exact Ev.bind (e_laws_eqCam x lx) (ev_pos rfl (Ev.bind (e_laws_eqCam y ly) (ev_pos rfl (Ev.bind (e_laws_eqCam p lp) (ev_pos rfl (evo rfl))))))

/-! marked -/
def marked (m : Int) (n : Nat) : List Int := (List.range n).map fun j : Nat => IntKind.i16.wrap (m + j)
theorem marked_len (m : Int) (n : Nat) : (marked m n).length = n := by simp [marked]

/-! laws_markonly -/
theorem e_laws_markCam (l : List Int) (hl : l.length ≤ 1048576) (m : Int) (h0 : 0 ≤ m) (h1 : m ≤ 1000000000) : Ev (fun k => laws_markCam.f k l m) (m + l.length, marked m l.length) := by
  unfold laws_markCam.f
  have := ev_loop (fun k j => laws_markCam.l0 k (marked m j ++ l.drop j) (m + j) (j : Int)) l.length (m + l.length, marked m l.length) ?_ ?_
  · simpa [marked] using this
  · intro j hj ih
    refine evs ?_
    have e : ((marked m j ++ l.drop j).length : Int) = l.length := by simp [marked_len]; omega
    have e2 : (marked m j ++ l.drop j).set ((j : Int)).toNat (IntKind.i16.wrap (m + j)) = marked m (j + 1) ++ l.drop (j + 1) := by
      rw [Int.toNat_natCast, List.drop_eq_getElem_cons hj, set_app _ _ _ _ _ (marked_len _ _)]
      unfold marked; rw [map_snoc]; simp
    simp (disch := omega) only [laws_markCam.l0, if_pos, e, w64]
    rw [e2, show m + (j : Int) + 1 = m + ((j + 1 : Nat) : Int) by omega]
    exact ih
  · refine evs ?_
    have e : ((marked m l.length ++ l.drop l.length).length : Int) = l.length := by simp [marked_len]
    simp (disch := omega) only [laws_markCam.l0, if_neg, e]
    exact evo (by simp)

/-! laws_held -/
theorem e_laws_heldCam (n : Nat) (hl : n ≤ 1048576) (m : Int) (h0 : 0 ≤ m) (h1 : m ≤ 1000000000) : Ev (fun k => laws_heldCam.f k (marked m n) m) (m + n) := by
  unfold laws_heldCam.f
  have e : ((marked m n).length : Int) = n := by rw [marked_len]
  have := ev_loop (fun k j => laws_heldCam.l0 k (marked m n) (m + j) (j : Int)) n (m + n) ?_ ?_
  · simpa using this
  · intro j hj ih
    refine evs ?_
    have e2 : rd (marked m n) (j : Int) = IntKind.i16.wrap (m + j) := by unfold marked; rw [rd_map _ _ _ (by omega) (by omega)]; simp
    simp (disch := omega) only [laws_heldCam.l0, if_pos, e, e2, if_true, w64]
    rw [show m + (j : Int) + 1 = m + ((j + 1 : Nat) : Int) by omega]
    exact ih
  · refine evs ?_
    simp (disch := omega) only [laws_heldCam.l0, if_neg, e]
    exact evo rfl

/-! laws_mark -/

/-! laws_markmach -/
theorem e_laws_markMachine (x y p : List Int) (lx : x.length ≤ 1048576) (ly : y.length ≤ 1048576) (lp : p.length ≤ 1048576) (m : Int) (h0 : 0 ≤ m) (h1 : m ≤ 100000000) : Ev (fun k => laws_markMachine.f k x y p m) (m + x.length + y.length + p.length, marked m x.length, marked (m + x.length) y.length, marked (m + x.length + y.length) p.length) := by
  unfold laws_markMachine.f
  exact Ev.bind (e_laws_markCam x lx m h0 (by omega)) (Ev.bind (e_laws_markCam y ly _ (by omega) (by omega)) (Ev.bind (e_laws_markCam p lp _ (by omega) (by omega)) (evo rfl)))
theorem e_laws_heldMachine (a b c : Nat) (ha : a ≤ 1048576) (hb : b ≤ 1048576) (hc : c ≤ 1048576) (m : Int) (h0 : 0 ≤ m) (h1 : m ≤ 100000000) : Ev (fun k => laws_heldMachine.f k (marked m a) (marked (m + a) b) (marked (m + a + b) c) m) (m + a + b + c) := by
  unfold laws_heldMachine.f
  exact Ev.bind (e_laws_heldCam a ha m h0 (by omega)) (ev_neg (by omega) (Ev.bind (e_laws_heldCam b hb _ (by omega) (by omega)) (ev_neg (by omega) (Ev.bind (e_laws_heldCam c hc _ (by omega) (by omega)) (ev_neg (by omega) (evo rfl))))))

theorem wf_i16q {x : Int} (h : (Lit.int .i16 x).wf = true) : -32768 ≤ x ∧ x ≤ 32767 := by simpa [Lit.wf, IntKind.min, IntKind.max, IntKind.bits, IntKind.signed] using h
set_option maxHeartbeats 4000000 in
theorem FnExactMachineFor : ∀ (l0 : List (S155)) (a1 : Int), (l0.length ≤ maxLen ∧ ∀ x2 ∈ l0, (((Lit.int .i16 x2.f0.f0).wf = true ∧ (Lit.int .i16 x2.f0.f1).wf = true) ∧ True)) → (Lit.int .i64 a1).wf = true → ∃ k, laws_FnExactMachineFor.f k l0 a1 = some true := by
  rintro l a1 ⟨hm, w⟩ v
  have i0 := wf_i64 v
  obtain ⟨r, hr, hb⟩ := e_laws_szStopS l hm
  refine ev_rounds ?_
  unfold laws_FnExactMachineFor.f
  rw [hr]
  simp only [Option.bind_some]
  by_cases c : r < 0
  · exact ev_pos c (evo rfl)
  refine ev_neg c ?_
  have hl := hb (by omega)
  have T := e_laws_toStopS l hl
  have hW : ∀ y ∈ l.map spConv, MkW y := by
    intro y hy
    obtain ⟨x, hx, rfl⟩ := List.mem_map.1 hy
    exact ⟨wf_i16q (w x hx).1.1, wf_i16q (w x hx).1.2⟩
  have hl2 : (l.map spConv).length ≤ 1048576 := by rw [List.length_map]; exact hl
  have A := e_spec_MachineFor (l.map spConv) hW hl2 a1 i0
  have B := e_impl_MachineFor (l.map spConv) hW hl2 a1 i0
  have Q := e_laws_eqStopS (l.map spConv) hl2
  obtain ⟨hr0, hr1, hr2⟩ := mfR_len (l.map spConv) a1
  revert A B hr0 hr1 hr2
  generalize mfR (l.map spConv) a1 = RR
  obtain ⟨x, y, p, c⟩ := RR
  intro A B hr0 hr1 hr2
  have QR := e_laws_eqMachine x y p hr0 hr1 hr2
  have MA := e_laws_markStopS (l.map spConv) hl2
  have MR := e_laws_markMachine x y p hr0 hr1 hr2
  have HR := e_laws_heldMachine x.length y.length p.length hr0 hr1 hr2
  repeat (first | exact evo rfl | (with_reducible refine Ev.bind QR ?_) | ((with_reducible refine Ev.bind (MA _ ?s1 ?s2) ?_); (case s1 => omega); (case s2 => omega)) | ((with_reducible refine Ev.bind (MR 1 ?s1 ?s2) ?_); (case s1 => omega); (case s2 => omega)) | ((with_reducible refine Ev.bind (HR 1 ?s1 ?s2) ?_); (case s1 => omega); (case s2 => omega)) | (with_reducible refine Ev.bind T ?_) | (with_reducible refine Ev.bind Q ?_) | (with_reducible refine Ev.bind A ?_) | (with_reducible refine Ev.bind B ?_) | ((with_reducible refine ev_pos ?s1 ?_); (case s1 => first | rfl | trivial | omega | (dsimp only; omega))) | ((with_reducible refine ev_neg ?s1 ?_); (case s1 => first | omega | (dsimp only; omega) | (simp; done))) | (refine evs ?_; simp only [laws_FnExactMachineFor.j0, laws_FnExactMachineFor.j1, laws_FnExactMachineFor.j2]))

end Go.Proofs.Ytnjcmalmnofbmaa.Pure
