/- Printed by this repository's own program (wip/tools/xprint.py) for the law FnExactReachOf: Lean functions that say what the Go functions compute, and the proofs that the machine comes to just that; no condition beyond those in each statement. -/
import Derived.Deep.WholeRow
import Derived.Laws.CopyOwn
import Derived.Test.YtkgeppbjfkhjcaaXPlate
import Derived.Test.YtkgeppbjfkhjcaaProg
import Derived.Below
import Derived.Deep.Draws
import Derived.Deep.AppendLies
import Derived.Maps.AppendAt
import Derived.OwnWalk
import Derived.Laws.BytesArg
import Derived.Laws.MakeOwn
import Derived.Laws.OwnMore
import Derived.Deep.OwnRows
import Derived.Tactics
import Derived.Lib.ConvBytes
import Derived.Laws.Slices
import Derived.WalkKit
import Derived.KernelRfl
import Derived.RowKit3
import Derived.Deep.LoopGhost
import Derived.Deep.QuietTactic
import Derived.BigQuiet
import Derived.WideLaws
import Derived.Deep.DeepCutAuto
import Derived.Deep.CutBlock
import Derived.Deep.RegionHeld3
import Derived.Laws.Rows
import Derived.Lib.AppendStr
import Derived.ArgAppend
import Derived.Laws.IdiomCopy
import Derived.OrdersHeld
import Derived.Laws.BitsLemmas
import Derived.RowKit
import Derived.Test.YtkgeppbjfkhjcaaWWords
import Derived.Test.YtkgeppbjfkhjcaaWLast
import Derived.Test.YtkgeppbjfkhjcaaWTab
import Derived.Test.YtkgeppbjfkhjcaaWFour
import Derived.Test.YtkgeppbjfkhjcaaWQPut
import Derived.Test.YtkgeppbjfkhjcaaWApart
import Derived.Test.YtkgeppbjfkhjcaaWArr
import Derived.Test.YtkgeppbjfkhjcaaWZeros
import Derived.Test.YtkgeppbjfkhjcaaWFoot
import Derived.Test.YtkgeppbjfkhjcaaWKept
import Derived.Test.YtkgeppbjfkhjcaaWShare
import Derived.Test.YtkgeppbjfkhjcaaWN
import Derived.Test.YtkgeppbjfkhjcaaWFootNe
import Derived.Test.YtkgeppbjfkhjcaaWAt
import Derived.Test.YtkgeppbjfkhjcaaWEqStruct
import Derived.Test.YtkgeppbjfkhjcaaWRepsOne
import Derived.Test.YtkgeppbjfkhjcaaWInv
import Derived.Test.YtkgeppbjfkhjcaaWInvWords
import Derived.Test.YtkgeppbjfkhjcaaWGuard
import Derived.Test.YtkgeppbjfkhjcaaWNEv
import Derived.Test.YtkgeppbjfkhjcaaWMore
import Derived.Test.YtkgeppbjfkhjcaaXWords
namespace Go.Proofs.Ytkgeppbjfkhjcaa.XFnExactReachOf
open Go.RowKit Go.Proofs.YtkgeppbjfkhjcaaW.PrintWords Go.Proofs.YtkgeppbjfkhjcaaW.PrintLast Go.Proofs.YtkgeppbjfkhjcaaW.PrintMore
attribute [local go_sem] max2_int min2_int max_two min_two max_three min_three max_four min_four   -- for this text's walks alone
set_option linter.unusedVariables false
set_option linter.unusedSimpArgs false



def errW : Option Int → Value
  | none => .nilIface
  | some c => .iface 0 (.int .i64 c)
theorem errW_none : errW none = .nilIface := rfl
theorem errW_some (c : Int) : errW (some c) = .iface 0 (.int .i64 c) := rfl

theorem info2 : (Try.prog.info? 2).map (fun i => (i.zero, i.size, i.bytes)) = some (some (.int .i64 0), 1, 8) := by kernel_rfl
theorem info58 : (Try.prog.info? 58).map (fun i => (i.zero, i.size, i.bytes)) = some (some (.int .i16 0), 1, 2) := by kernel_rfl
theorem info69 : (Try.prog.info? 69).map (fun i => (i.zero, i.size, i.bytes)) = some (some (.agg #[(.int .u64 0), (.int .u64 0), (.int .u64 0), (.int .u64 0), (.int .u64 0), (.int .u64 0), (.int .u64 0), (.int .u64 0), (.int .u64 0), (.int .u64 0), (.int .u64 0), (.int .u64 0), (.int .u64 0), (.int .u64 0), (.int .u64 0), (.int .u64 0), (.int .u64 0), (.int .u64 0), (.int .u64 0), (.int .u64 0), (.int .u64 0), (.int .u64 0), (.int .u64 0), (.int .u64 0), (.int .u64 0), (.int .u64 0), (.int .u64 0), (.int .u64 0), (.int .u64 0), (.int .u64 0), (.int .u64 0), (.int .u64 0), (.int .u64 0), (.int .u64 0), (.int .u64 0), (.int .u64 0), (.int .u64 0), (.int .u64 0), (.int .u64 0), (.int .u64 0), (.int .u64 0), (.int .u64 0), (.int .u64 0), (.int .u64 0), (.int .u64 0), (.int .u64 0), (.int .u64 0), (.int .u64 0), (.int .u64 0), (.int .u64 0), (.int .u64 0), (.int .u64 0), (.int .u64 0), (.int .u64 0), (.int .u64 0), (.int .u64 0), (.int .u64 0), (.int .u64 0), (.int .u64 0), (.int .u64 0), (.int .u64 0), (.int .u64 0), (.int .u64 0), (.int .u64 0)]), 64, 512) := by kernel_rfl
-- the values' own types
/-! #### struct type 69: an array of 64 numbers -/
structure S69 where
  f0 : List Int
def z69 : S69 := ⟨pl0_⟩
def k69 : Kd S69 := Kd.iso kPl (fun x : S69 => x.f0)
set_option maxRecDepth 100000 in
theorem k69_open {w : World} {x : S69} {cs : List Value} (h : k69.K w x cs) : cs = (plA x.f0).toList := kPl_open h
set_option maxRecDepth 100000 in
theorem k69_openM {w : World} {base : Nat} {ok : Nat → Prop} {x : S69} {cs : List Value} (h : k69.M w base ok x cs) : cs = (plA x.f0).toList := kPl_openM h
set_option maxRecDepth 100000 in
theorem k69_mk (w : World) (x : S69) : k69.K w x (plA x.f0).toList := kPl_mk w x.f0
set_option maxRecDepth 100000 in
theorem k69_mkM (w : World) (base : Nat) (ok : Nat → Prop) (x : S69) : k69.M w base ok x (plA x.f0).toList := kPl_mkM w base ok x.f0
def rd_T69 (xs : List S69) (i : Int) : S69 := xs.getD i.toNat z69
set_option maxRecDepth 100000 in
theorem at_T69 {w : World} {A : Option Addr} {n : Nat} {xs : List S69} (h : Kd.C k69 w A n xs) (i : Int) (h0 : 0 ≤ i) (h1 : i < n) : ∃ ad, A = some ad ∧ plAt w (ad.add (i.toNat * 64)) (rd_T69 xs i).f0 := plate_at (d := k69) (fun x => x.f0) z69 kPl_sz (fun _ _ _ h => kPl_open h) h i h0 h1
theorem pinfo69 : (Try.prog.info? 69).map (fun i => (i.zero, i.size, i.bytes)) = some (some (.agg (plA pl0_)), 64, 512) := by kernel_rfl
theorem pbuilt69 : Try.prog.built 69 [] = some (plA pl0_) := by kernel_rfl
theorem pgd69 : Try.prog.eqGuardType Try.prog.depth 69 = false := by kernel_rfl

end Go.Proofs.Ytkgeppbjfkhjcaa.XFnExactReachOf
