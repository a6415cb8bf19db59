/- Printed by this repository's own program (wip/tools/xprint.py) for the law FnExactLiftsOn: Lean functions that say what the Go functions compute, and the proofs that the machine comes to just that; no condition beyond those in each statement. -/
import Derived.Test.YtnjcmalmnofbmaaProg
import Derived.Below
import Derived.Deep.Draws
import Derived.Deep.AppendLies
import Derived.Maps.AppendAt
import Derived.OwnWalk
import Derived.Laws.BytesArg
import Derived.Laws.MakeOwn
import Derived.Laws.OwnMore
import Derived.Deep.OwnRows
import Derived.Tactics
import Derived.Lib.ConvBytes
import Derived.Laws.Slices
import Derived.WalkKit
import Derived.KernelRfl
import Derived.RowKit3
import Derived.Deep.LoopGhost
import Derived.Deep.QuietTactic
import Derived.BigQuiet
import Derived.WideLaws
import Derived.Deep.DeepCutAuto
import Derived.Deep.CutBlock
import Derived.Deep.RegionHeld3
import Derived.Laws.Rows
import Derived.Lib.AppendStr
import Derived.ArgAppend
import Derived.Laws.IdiomCopy
import Derived.OrdersHeld
import Derived.Laws.BitsLemmas
import Derived.RowKit
import Derived.Test.YtnjcmalmnofbmaaWWords
import Derived.Test.YtnjcmalmnofbmaaWLast
import Derived.Test.YtnjcmalmnofbmaaWTab
import Derived.Test.YtnjcmalmnofbmaaWFour
import Derived.Test.YtnjcmalmnofbmaaWQPut
import Derived.Test.YtnjcmalmnofbmaaWApart
import Derived.Test.YtnjcmalmnofbmaaWArr
import Derived.Test.YtnjcmalmnofbmaaWZeros
import Derived.Test.YtnjcmalmnofbmaaWFoot
import Derived.Test.YtnjcmalmnofbmaaWKept
import Derived.Test.YtnjcmalmnofbmaaWShare
import Derived.Test.YtnjcmalmnofbmaaWN
import Derived.Test.YtnjcmalmnofbmaaWFootNe
import Derived.Test.YtnjcmalmnofbmaaWAt
import Derived.Test.YtnjcmalmnofbmaaWEqStruct
import Derived.Test.YtnjcmalmnofbmaaWRepsOne
import Derived.Test.YtnjcmalmnofbmaaWInv
import Derived.Test.YtnjcmalmnofbmaaWInvWords
import Derived.Test.YtnjcmalmnofbmaaWGuard
import Derived.Test.YtnjcmalmnofbmaaWNEv
import Derived.Test.YtnjcmalmnofbmaaWMore
import Derived.Test.YtnjcmalmnofbmaaXWords
namespace Go.Proofs.Ytnjcmalmnofbmaa.XFnExactLiftsOn
open Go.RowKit Go.Proofs.YtnjcmalmnofbmaaW.PrintWords Go.Proofs.YtnjcmalmnofbmaaW.PrintLast Go.Proofs.YtnjcmalmnofbmaaW.PrintMore
attribute [local go_sem] max2_int min2_int max_two min_two max_three min_three max_four min_four   -- for this text's walks alone
set_option linter.unusedVariables false
set_option linter.unusedSimpArgs false



def errW : Option Int → Value
  | none => .nilIface
  | some c => .iface 0 (.int .i64 c)
theorem errW_none : errW none = .nilIface := rfl
theorem errW_some (c : Int) : errW (some c) = .iface 0 (.int .i64 c) := rfl

theorem info2 : (Try.prog.info? 2).map (fun i => (i.zero, i.size, i.bytes)) = some (some (.int .i64 0), 1, 8) := by kernel_rfl
theorem info38 : (Try.prog.info? 38).map (fun i => (i.zero, i.size, i.bytes)) = some (some (.int .i16 0), 1, 2) := by kernel_rfl
theorem info144 : (Try.prog.info? 144).map (fun i => (i.zero, i.size, i.bytes)) = some (some (.agg #[(.int .i16 0), (.int .i16 0), (.int .i16 0), (.slice none 0 0)]), 4, 32) := by kernel_rfl
-- the values' own types
def rd_L1 (xs : List (List Int)) (i : Int) : (List Int) := xs.getD i.toNat ([] : List Int)
theorem at_L1 {w : World} {A : Option Addr} {n : Nat} {xs : List (List Int)} (h : Kd.C (Kd.slice 38 (Kd.int .i16)) w A n xs) (i : Int) (h0 : 0 ≤ i) (h1 : i < n) : ∃ ad A0 c0, A = some ad ∧ w.cell? (ad.add i.toNat) = some (.slice A0 (rd_L1 xs i).length c0) ∧ (rd_L1 xs i).length ≤ c0 ∧ (Kd.int .i16).C w A0 (rd_L1 xs i).length (rd_L1 xs i) := by
  obtain ⟨ad, c, e, _, hK, hc0⟩ := Kd.C_get h ([] : List Int) i h0 h1
  have hc : ∀ j u, c[j]? = some u → w.cell? (ad.add (i.toNat * 1 + j)) = some u := hc0
  obtain ⟨A0, c0, rfl, l0, g0⟩ := hK
  exact ⟨ad, A0, c0, e, by have hq := hc 0 _ rfl; rwa [Nat.mul_one, Nat.add_zero] at hq, l0, g0⟩

/-! #### struct type 144 -/
structure S144 where
  f0 : Int
  f1 : Int
  f2 : Int
  f3 : (List Int)
def z144 : S144 := ⟨(0 : Int), (0 : Int), (0 : Int), ([] : List Int)⟩
def k144 : Kd S144 := Kd.iso (Kd.pair (Kd.int .i16) (Kd.pair (Kd.int .i16) (Kd.pair (Kd.int .i16) (Kd.slice 38 (Kd.int .i16))))) (fun x : S144 => (x.f0, x.f1, x.f2, x.f3))
theorem k144_open {w : World} {x : S144} {cs : List Value} (h : k144.K w x cs) : ∃ A3 c3, cs = [.int .i16 x.f0, .int .i16 x.f1, .int .i16 x.f2, .slice A3 x.f3.length c3] ∧ x.f3.length ≤ c3 ∧ (Kd.int .i16).C w A3 x.f3.length x.f3 := by
  obtain ⟨_, _, rfl, rfl, ⟨_, _, rfl, rfl, ⟨_, _, rfl, rfl, ⟨A3, c3, rfl, l3, g3⟩⟩⟩⟩ := h
  exact ⟨A3, c3, rfl, l3, g3⟩
theorem k144_openM {w : World} {base : Nat} {ok : Nat → Prop} {x : S144} {cs : List Value} (h : k144.M w base ok x cs) : ∃ v3, cs = [.int .i16 x.f0, .int .i16 x.f1, .int .i16 x.f2, v3] ∧ (Kd.int .i16).R 38 w base ok v3 x.f3 := by
  obtain ⟨_, _, rfl, rfl, ⟨_, _, rfl, rfl, ⟨_, _, rfl, rfl, ⟨v3, rfl, g3⟩⟩⟩⟩ := h
  exact ⟨v3, rfl, g3⟩
theorem k144_mk (w : World) (x : S144) {A3 : Option Addr} {c3 : Nat} (l3 : x.f3.length ≤ c3) (g3 : (Kd.int .i16).C w A3 x.f3.length x.f3) : k144.K w x [.int .i16 x.f0, .int .i16 x.f1, .int .i16 x.f2, .slice A3 x.f3.length c3] := ⟨[.int .i16 x.f0], [.int .i16 x.f1, .int .i16 x.f2, .slice A3 x.f3.length c3], rfl, rfl, ⟨[.int .i16 x.f1], [.int .i16 x.f2, .slice A3 x.f3.length c3], rfl, rfl, ⟨[.int .i16 x.f2], [.slice A3 x.f3.length c3], rfl, rfl, ⟨A3, c3, rfl, l3, g3⟩⟩⟩⟩
theorem k144_mkM (w : World) (base : Nat) (ok : Nat → Prop) (x : S144) {v3 : Value} (g3 : (Kd.int .i16).R 38 w base ok v3 x.f3) : k144.M w base ok x [.int .i16 x.f0, .int .i16 x.f1, .int .i16 x.f2, v3] := ⟨[.int .i16 x.f0], [.int .i16 x.f1, .int .i16 x.f2, v3], rfl, rfl, ⟨[.int .i16 x.f1], [.int .i16 x.f2, v3], rfl, rfl, ⟨[.int .i16 x.f2], [v3], rfl, rfl, ⟨v3, rfl, g3⟩⟩⟩⟩
def rd_T144 (xs : List S144) (i : Int) : S144 := xs.getD i.toNat z144
theorem at_T144 {w : World} {A : Option Addr} {n : Nat} {xs : List S144} (h : Kd.C k144 w A n xs) (i : Int) (h0 : 0 ≤ i) (h1 : i < n) : ∃ ad A3 c3, A = some ad ∧ w.cell? (ad.add (i.toNat * 4)) = some (.int .i16 (rd_T144 xs i).f0) ∧ w.cell? ⟨(ad.add (i.toNat * 4)).block, (ad.add (i.toNat * 4)).off + 1, none⟩ = some (.int .i16 (rd_T144 xs i).f1) ∧ w.cell? ⟨(ad.add (i.toNat * 4)).block, (ad.add (i.toNat * 4)).off + 2, none⟩ = some (.int .i16 (rd_T144 xs i).f2) ∧ w.cell? ⟨(ad.add (i.toNat * 4)).block, (ad.add (i.toNat * 4)).off + 3, none⟩ = some (.slice A3 (rd_T144 xs i).f3.length c3) ∧ (rd_T144 xs i).f3.length ≤ c3 ∧ (Kd.int .i16).C w A3 (rd_T144 xs i).f3.length (rd_T144 xs i).f3 := by
  obtain ⟨ad, c, e, _, hK, hc0⟩ := Kd.C_get h z144 i h0 h1
  have hc : ∀ j u, c[j]? = some u → w.cell? (ad.add (i.toNat * 4 + j)) = some u := hc0
  obtain ⟨A3, c3, rfl, l3, g3⟩ := k144_open hK
  exact ⟨ad, A3, c3, e, hc 0 _ rfl, by rw [← add_field _ _ 1 (by omega)]; exact hc 1 _ rfl, by rw [← add_field _ _ 2 (by omega)]; exact hc 2 _ rfl, by rw [← add_field _ _ 3 (by omega)]; exact hc 3 _ rfl, l3, g3⟩

/-! #### struct type 161 -/
structure S161 where
  f0 : Int
  f1 : Int
  f2 : Int
  f3 : (List Int)
def z161 : S161 := ⟨(0 : Int), (0 : Int), (0 : Int), ([] : List Int)⟩
def k161 : Kd S161 := Kd.iso (Kd.pair (Kd.int .i16) (Kd.pair (Kd.int .i16) (Kd.pair (Kd.int .i16) (Kd.slice 38 (Kd.int .i16))))) (fun x : S161 => (x.f0, x.f1, x.f2, x.f3))
theorem k161_open {w : World} {x : S161} {cs : List Value} (h : k161.K w x cs) : ∃ A3 c3, cs = [.int .i16 x.f0, .int .i16 x.f1, .int .i16 x.f2, .slice A3 x.f3.length c3] ∧ x.f3.length ≤ c3 ∧ (Kd.int .i16).C w A3 x.f3.length x.f3 := by
  obtain ⟨_, _, rfl, rfl, ⟨_, _, rfl, rfl, ⟨_, _, rfl, rfl, ⟨A3, c3, rfl, l3, g3⟩⟩⟩⟩ := h
  exact ⟨A3, c3, rfl, l3, g3⟩
theorem k161_openM {w : World} {base : Nat} {ok : Nat → Prop} {x : S161} {cs : List Value} (h : k161.M w base ok x cs) : ∃ v3, cs = [.int .i16 x.f0, .int .i16 x.f1, .int .i16 x.f2, v3] ∧ (Kd.int .i16).R 38 w base ok v3 x.f3 := by
  obtain ⟨_, _, rfl, rfl, ⟨_, _, rfl, rfl, ⟨_, _, rfl, rfl, ⟨v3, rfl, g3⟩⟩⟩⟩ := h
  exact ⟨v3, rfl, g3⟩
theorem k161_mk (w : World) (x : S161) {A3 : Option Addr} {c3 : Nat} (l3 : x.f3.length ≤ c3) (g3 : (Kd.int .i16).C w A3 x.f3.length x.f3) : k161.K w x [.int .i16 x.f0, .int .i16 x.f1, .int .i16 x.f2, .slice A3 x.f3.length c3] := ⟨[.int .i16 x.f0], [.int .i16 x.f1, .int .i16 x.f2, .slice A3 x.f3.length c3], rfl, rfl, ⟨[.int .i16 x.f1], [.int .i16 x.f2, .slice A3 x.f3.length c3], rfl, rfl, ⟨[.int .i16 x.f2], [.slice A3 x.f3.length c3], rfl, rfl, ⟨A3, c3, rfl, l3, g3⟩⟩⟩⟩
theorem k161_mkM (w : World) (base : Nat) (ok : Nat → Prop) (x : S161) {v3 : Value} (g3 : (Kd.int .i16).R 38 w base ok v3 x.f3) : k161.M w base ok x [.int .i16 x.f0, .int .i16 x.f1, .int .i16 x.f2, v3] := ⟨[.int .i16 x.f0], [.int .i16 x.f1, .int .i16 x.f2, v3], rfl, rfl, ⟨[.int .i16 x.f1], [.int .i16 x.f2, v3], rfl, rfl, ⟨[.int .i16 x.f2], [v3], rfl, rfl, ⟨v3, rfl, g3⟩⟩⟩⟩
def rd_T161 (xs : List S161) (i : Int) : S161 := xs.getD i.toNat z161
theorem at_T161 {w : World} {A : Option Addr} {n : Nat} {xs : List S161} (h : Kd.C k161 w A n xs) (i : Int) (h0 : 0 ≤ i) (h1 : i < n) : ∃ ad A3 c3, A = some ad ∧ w.cell? (ad.add (i.toNat * 4)) = some (.int .i16 (rd_T161 xs i).f0) ∧ w.cell? ⟨(ad.add (i.toNat * 4)).block, (ad.add (i.toNat * 4)).off + 1, none⟩ = some (.int .i16 (rd_T161 xs i).f1) ∧ w.cell? ⟨(ad.add (i.toNat * 4)).block, (ad.add (i.toNat * 4)).off + 2, none⟩ = some (.int .i16 (rd_T161 xs i).f2) ∧ w.cell? ⟨(ad.add (i.toNat * 4)).block, (ad.add (i.toNat * 4)).off + 3, none⟩ = some (.slice A3 (rd_T161 xs i).f3.length c3) ∧ (rd_T161 xs i).f3.length ≤ c3 ∧ (Kd.int .i16).C w A3 (rd_T161 xs i).f3.length (rd_T161 xs i).f3 := by
  obtain ⟨ad, c, e, _, hK, hc0⟩ := Kd.C_get h z161 i h0 h1
  have hc : ∀ j u, c[j]? = some u → w.cell? (ad.add (i.toNat * 4 + j)) = some u := hc0
  obtain ⟨A3, c3, rfl, l3, g3⟩ := k161_open hK
  exact ⟨ad, A3, c3, e, hc 0 _ rfl, by rw [← add_field _ _ 1 (by omega)]; exact hc 1 _ rfl, by rw [← add_field _ _ 2 (by omega)]; exact hc 2 _ rfl, by rw [← add_field _ _ 3 (by omega)]; exact hc 3 _ rfl, l3, g3⟩

end Go.Proofs.Ytnjcmalmnofbmaa.XFnExactLiftsOn
