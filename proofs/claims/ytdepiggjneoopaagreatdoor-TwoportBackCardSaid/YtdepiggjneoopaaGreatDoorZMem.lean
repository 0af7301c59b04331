/- a part of the proof of the last text -/
import Derived.Test.YtdepiggjneoopaaGreatDoorZRow
namespace Go.Proofs.YtdepiggjneoopaaGreatDoor
set_option linter.all false
set_option maxHeartbeats 4000000
set_option maxRecDepth 100000
open Go.RowKit
/-- The cells of a block that is known whole. -/
theorem block_cells {w : World} {g t : Nat} {cs : Array Value} (h : w.heap[g]? = some (.cells cs t (0, 0))) : (∀ (o : Nat) (x : Value), cs[o]? = some x → w.cell? ⟨g, o, none⟩ = some x) ∧ ∀ o, w.frozen? ⟨g, o, none⟩ = false :=
  ⟨fun o x hx => (cell_of_row _ _ _ _ _ _ h).trans hx, fun o => by simp [World.frozen?, h]⟩
theorem heap_past_of {w : World} {g : Nat} {o o' : Obj} (h : w.heap[g]? = some o) : (w.alloc o').heap[g]? = some o := (heap_alloc_old w o' (Array.getElem?_eq_some_iff.1 h).1).trans h
theorem heap_later2 {w w' : World} {g : Nat} {o : Obj} (hb : Below w.heap.size w w') (h : w.heap[g]? = some o) : w'.heap[g]? = some o := (hb.block g (Array.getElem?_eq_some_iff.1 h).1).trans h
theorem below_next {w w1 w2 : World} (h : Below w.heap.size w w1) (h2 : Below w1.heap.size w1 w2) : Below w.heap.size w w2 := h.trans (h2.mono h.size)
theorem cells_ofS {w : World} {g t : Nat} {cs : Array Value} (h : w.heap[g]? = some (.cells cs t (0, 0))) : (∀ (o : Nat) (x : Value), cs[o]? = some x → w.cell? ⟨g, o, none⟩ = some x) ∧ ∀ o, w.frozen? ⟨g, o, none⟩ = false :=
  ⟨fun o x hx => (cell_of_row _ _ _ _ _ _ h).trans hx, fun o => by simp [World.frozen?, h]⟩
end Go.Proofs.YtdepiggjneoopaaGreatDoor
