/-
  Small laws on rows: blocks that a call keeps.
-/
import Derived.Test.YtmighkgjbohieaaFrame
import Derived.Lib.Hide
import Derived.Outline
import Derived.Handy
import Derived.WalkLawsBesides
set_option linter.unusedVariables false
set_option linter.unusedSimpArgs false
namespace Go.Proofs.Ytmighkgjbohieaa
open Go.ChangeShapes Go.WideShapes Go.ChangeAt Go.RowKit

theorem below_kept {w w' : World} (h : Below w.heap.size w w') {a : Addr} {v : Value} (hc : w.cell? a = some v) : w'.cell? a = some v := by
  rw [h.cell (World.block_lt_of_cell? w a hc)]
  exact hc
theorem row_below {w w' : World} {b : Nat} {x : Obj} (hb : Below w.heap.size w w') (h : w.heap[b]? = some x) : w'.heap[b]? = some x := (hb.block b (Array.getElem?_eq_some_iff.1 h).1).trans h
theorem row_alloc {w : World} {b : Nat} {x o : Obj} (h : w.heap[b]? = some x) : (w.alloc o).heap[b]? = some x := row_below ((Below.refl _ _).alloc (Nat.le_refl _) _) h
theorem row_lt {w : World} {b : Nat} {x : Obj} (h : w.heap[b]? = some x) : b < w.heap.size := (Array.getElem?_eq_some_iff.1 h).1
theorem row_set {w : World} {b : Nat} {x : Obj} {a : Addr} {v : Value} (hne : b ≠ a.block) (h : w.heap[b]? = some x) : (w.setCell a v).heap[b]? = some x := (heap_setCell_other w a b v hne).trans h
theorem row_drew {w : World} {b : Nat} {x : Obj} (h : w.heap[b]? = some x) : w.drew.heap[b]? = some x := h
end Go.Proofs.Ytmighkgjbohieaa
