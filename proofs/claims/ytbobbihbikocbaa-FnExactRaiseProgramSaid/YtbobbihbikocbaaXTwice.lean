/- Words of this repository: a cell that is written twice; no condition beyond those in each statement. -/
import Derived.Test.YtbobbihbikocbaaXWords
namespace Go.Proofs.YtbobbihbikocbaaW.PrintMore
theorem modify_twice {α : Type} (h : Array α) (i : Nat) (f g k : α → α) (e : ∀ o, g (f o) = k o) : (h.modify i f).modify i g = h.modify i k := by
  apply Array.ext_getElem?
  intro j
  rw [Array.getElem?_modify, Array.getElem?_modify, Array.getElem?_modify]
  by_cases c : i = j
  · rw [if_pos c, if_pos c, if_pos c]
    cases h[j]? with
    | none => rfl
    | some o => simp only [Option.map_some]; rw [e]
  · rw [if_neg c, if_neg c, if_neg c]
theorem setCell_twice (W : World) (a : Addr) (u v : Value) : (W.setCell a u).setCell a v = W.setCell a v := by
  unfold World.setCell
  simp only
  congr 1
  apply modify_twice
  intro o
  cases o with
  | cells c elem fr =>
    simp only
    by_cases s : a.spot.isSome = true
    · simp only [if_pos s]
    · simp only [if_neg s, Array.setIfInBounds_setIfInBounds]
  | _ => rfl
theorem cell_twice (W : World) (a : Addr) (u v x : Value) (h : W.cell? a = some x) : ((W.setCell a u).setCell a v).cell? a = some v := by
  rw [setCell_twice]; first | exact World.cell?_setCell_same _ _ h | exact World.cell?_setCell_same W a h | exact World.cell?_setCell_same _ _ _ h | exact World.cell?_setCell_same W a v h | (simp [World.cell?_setCell_same, h])
end Go.Proofs.YtbobbihbikocbaaW.PrintMore
