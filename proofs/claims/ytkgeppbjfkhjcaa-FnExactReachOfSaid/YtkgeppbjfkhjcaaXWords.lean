/- Words of this repository: a call of a function value in a region, and the cell of a captured variable in a later world; no condition beyond those in each statement. -/
import Derived.Test.YtkgeppbjfkhjcaaWMore
namespace Go.Proofs.YtkgeppbjfkhjcaaW.PrintMore
open Go.RowKit Go.Proofs.YtkgeppbjfkhjcaaW.PrintWords
section
variable {P : Program} {ops : Array Oper} {Q : Exit → Act → World → Prop}
/-- A call of a function value in a plain region: the value lies in a slot; what it binds and what it captured are handed on. -/
theorem goesV_ {rest : List Oper} {oi : Oper} {a : Act} {w : World} (N : Option Tmp) (hd : oi.dst = N) (hg : oi.guard = none) {f : FuncId} {fn : Func} {as : Array Operand} {ts : Array TypeId} {j : Tmp} {first cap : Array Value} (hf : P.funcs[f]? = some fn) (hname : (fn.name == "runtime.NumGoroutine") = false) (hb : fn.body.isSome = true) (args : Array Value)
    (hop : oi.op = .call { callee := .value (.tmp j), args := as, argTypes := ts }) (hfn : a.eval (.tmp j) = .func (.func f) first cap) (hargs : first ++ as.map a.eval ++ cap = args)
    (h : Calls P f args w fun e w' => ∃ v, e = .returned v ∧ wpList P ops Q rest (a.put N v) w') : wpList P ops Q (oi :: rest) a w := by
  refine wpList_plain hg fun K hK => ?_
  have he := PrintLast.enters_ hf hname hb args w
  have hrun : (execOp a.eval oi).run P w = .ok (.enter f args) w := by
    unfold execOp
    simp [hop, resolve, Deferred.ofValue, invoke, hfn, hargs, he]
  unfold Oper.wp
  rw [hrun, Oper.upon_enter]
  refine h.mono fun e w'' hh => ?_
  obtain ⟨v, rfl, hk⟩ := hh
  subst hd
  exact hK _ _ hk
/-- The same in a region that draws its order. -/
theorem goesW_ {oi : Oper} {N : Option Tmp} {a : Act} {w : World} {K : Act → World → Prop} {f : FuncId} {fn : Func} {as : Array Operand} {ts : Array TypeId} {j : Tmp} {first cap : Array Value} (hf : P.funcs[f]? = some fn) (hname : (fn.name == "runtime.NumGoroutine") = false) (hb : fn.body.isSome = true) (args : Array Value)
    (hw : Region.wanted oi (yielded ops a.tmps) = true) (hN : oi.dst = N) (hop : oi.op = .call { callee := .value (.tmp j), args := as, argTypes := ts }) (hfn : a.eval (.tmp j) = .func (.func f) first cap) (hargs : first ++ as.map a.eval ++ cap = args)
    (h : Calls P f args w fun e w' => ∃ v, e = .returned v ∧ K (a.put N v) w') : if Region.wanted oi (yielded ops a.tmps) = true then Oper.wp P oi a w K Q else K (a.put N undef) w := by
  refine PrintLast.call_ f args hw hN ?_ h
  have he := PrintLast.enters_ hf hname hb args w
  unfold execOp
  simp [hop, resolve, Deferred.ofValue, invoke, hfn, hargs, he]
end
section
variable {W : World} {a : Addr} {v : Value}
theorem xq_drewN (h : W.cell? a = some v) (n : Nat) : (W.drewN n).cell? a = some v := h
theorem xq_drew (h : W.cell? a = some v) : W.drew.cell? a = some v := h
theorem xq_alloc (h : W.cell? a = some v) (o : Obj) : (W.alloc o).cell? a = some v := by
  rw [World.cell?_alloc_lt _ _ _ (World.block_lt_of_cell? W a h)]; exact h
theorem xq_new (W : World) (T : TypeId) (v : Value) (g : Nat) (h : g = W.heap.size) : (W.alloc (.cells #[v] T)).cell? ⟨g, 0, none⟩ = some v := by
  subst h; rw [World.cell?_alloc_at _ _ _ _ rfl]; rfl
end
/-- What a slice that came in leads to is no block made later. -/
theorem far_of_C {k : IntKind} {w : World} {A : Option Addr} {n : Nat} {l : List Int} (h : Kd.C (Kd.int k) w A n l) {b : Nat} (hb : w.heap.size ≤ b) : ∀ ad, A = some ad → 0 < n → ad.block ≠ b := by
  intro ad ha hn e
  obtain ⟨ad', c, e', hl, _, hc⟩ := Kd.C_get h 0 0 (by omega) (by omega)
  rw [ha] at e'
  cases e'
  have h1 : 0 < c.length := by rw [hl]; exact Nat.one_pos
  have := World.block_lt_of_cell? w _ (hc 0 c[0] (List.getElem?_eq_getElem h1))
  rw [add_block] at this
  omega
/-- A cell that was there is in no block made later. -/
theorem cell_ne {w : World} {q b : Nat} {u : Value} (h : w.cell? ⟨q, 0, none⟩ = some u) (hb : w.heap.size ≤ b) : q ≠ b := by
  have : q < w.heap.size := World.block_lt_of_cell? w _ h
  omega
/-- A place is not the block of a slice. -/
abbrev nbk (k : Nat) (A : Option Addr) (n c : Nat) : Prop := some k ≠ (Value.slice A n c).ownBlock
end Go.Proofs.YtkgeppbjfkhjcaaW.PrintMore
