/-
  The contract of hotspotlaw17.alive: the chapter's examples.
-/
import Derived.Test.YtclahaafpiekeaaDoorWinBits
namespace Go.Proofs.YtclahaafpiekeaaDoor
open Go.ChangeShapes Go.WideShapes Go.ChangeAt Go.RowKit

theorem a1 : mkS 4095 4095 = 4095 := by decide
theorem a2 : ((mkB 4095 4095 0 : Nat) : Int) = 1 := by decide
theorem a3 : mkE 4095 4095 = 0 := by decide
theorem a4 : mkS 4095 0 = 4095 := by decide
theorem a5 : ((mkB 4095 0 1 : Nat) : Int) = 3 := by decide
theorem a6 : mkE 4095 0 = 0 := by decide
theorem a7 : mvS 4095 0 = 0 := by decide
theorem a8 : ((mvB 4095 0 3 : Nat) : Int) = 1 := by decide
theorem a9 : chkE 4095 0 = 0 := by decide
theorem a10 : fiB 0 2 1 = true := by decide
theorem a11 : fiN 0 2 1 = 1 := by decide
theorem a12 : lessB 4095 1 = true := by decide
theorem a13 : lessB 1 4095 = false := by decide

set_option maxRecDepth 100000 in
set_option maxHeartbeats 4000000 in
theorem walive_any (w : World) (T : Bru w) : Calls Tryd.prog 8 #[] w fun e w' => e = .returned (.bool true) ∧ Below w.heap.size w w' := by
  go_enter Tryd.func8, Tryd.ntmps8
  go_wp2_with fail
  refine (new_ok 4095 (by decide) _).mono ?_
  rintro e w1 ⟨rfl, hb1⟩
  have hB1 : Below w.heap.size w w1 := hb1
  clear hb1
  go_wp2_with fail
  refine (mark_any 4095 4095 0 (by decide) _).mono ?_
  rintro e w2 ⟨rfl, hb2⟩
  have hsz1 := hB1.size
  have xlo : w.heap.size ≤ w1.heap.size := by omega
  have hB2 : Below w.heap.size w w2 := (hB1.alloc (by first | omega | (simp only [World.size_alloc, World.size_setCell]; omega)) _).trans (hb2.mono (by (try simp only [World.size_alloc, World.size_setCell]); omega))
  have Rx2 := Lib.hid (show w2.heap[w1.heap.size]? = some (.cells #[.int .i64 4095, .int .u64 0] 27) from row_below hb2 (heap_alloc_new _ (.cells #[.int .i64 4095, .int .u64 0] 27)))
  clear hb2 hsz1 
  have x0w2 : w2.cell? ⟨w1.heap.size, 0, none⟩ = some (.int .i64 4095) := (cell_of_row _ _ _ _ _ _ Rx2.out).trans rfl
  have x1w2 : w2.cell? ⟨w1.heap.size, 1, none⟩ = some (.int .u64 0) := (cell_of_row _ _ _ _ _ _ Rx2.out).trans rfl
  have xfw2 : ∀ o, w2.frozen? ⟨w1.heap.size, o, none⟩ = false := fun o => frozen_of_row _ _ _ _ _ Rx2.out
  have xy2 : w1.heap.size < w2.heap.size := row_lt Rx2.out
  simp only [a1, a2, a3]
  go_wp2_with fail
  refine (mark_any 4095 0 1 (by decide) _).mono ?_
  rintro e w3 ⟨rfl, hb3⟩
  have hsz2 := hB2.size
  have hB3 : Below w.heap.size w w3 := ((hB2.setCell (p := ⟨w1.heap.size, 0, none⟩) (by first | omega | (simp only [World.size_alloc, World.size_setCell]; omega)) _).setCell (p := ⟨w1.heap.size, 1, none⟩) (by first | omega | (simp only [World.size_alloc, World.size_setCell]; omega)) _).trans (hb3.mono (by (try simp only [World.size_alloc, World.size_setCell]); omega))
  have Rx3 := Lib.hid (show w3.heap[w1.heap.size]? = some (.cells #[.int .i64 4095, .int .u64 1] 27) from row_below hb3 (heap_setCell_same _ _ _ _ _ _ (heap_setCell_same _ _ _ _ _ _ (Rx2.out))))
  clear hb3 hsz2 x0w2 x1w2 xfw2 xy2 Rx2
  have x0w3 : w3.cell? ⟨w1.heap.size, 0, none⟩ = some (.int .i64 4095) := (cell_of_row _ _ _ _ _ _ Rx3.out).trans rfl
  have x1w3 : w3.cell? ⟨w1.heap.size, 1, none⟩ = some (.int .u64 1) := (cell_of_row _ _ _ _ _ _ Rx3.out).trans rfl
  have xfw3 : ∀ o, w3.frozen? ⟨w1.heap.size, o, none⟩ = false := fun o => frozen_of_row _ _ _ _ _ Rx3.out
  have xy3 : w1.heap.size < w3.heap.size := row_lt Rx3.out
  simp only [a4, a5, a6]
  go_wp2_with fail
  refine (move_any 4095 0 3 (by decide) _).mono ?_
  rintro e w4 ⟨rfl, hb4⟩
  have hsz3 := hB3.size
  have hB4 : Below w.heap.size w w4 := ((hB3.setCell (p := ⟨w1.heap.size, 0, none⟩) (by first | omega | (simp only [World.size_alloc, World.size_setCell]; omega)) _).setCell (p := ⟨w1.heap.size, 1, none⟩) (by first | omega | (simp only [World.size_alloc, World.size_setCell]; omega)) _).trans (hb4.mono (by (try simp only [World.size_alloc, World.size_setCell]); omega))
  have Rx4 := Lib.hid (show w4.heap[w1.heap.size]? = some (.cells #[.int .i64 4095, .int .u64 3] 27) from row_below hb4 (heap_setCell_same _ _ _ _ _ _ (heap_setCell_same _ _ _ _ _ _ (Rx3.out))))
  clear hb4 hsz3 x0w3 x1w3 xfw3 xy3 Rx3
  have x0w4 : w4.cell? ⟨w1.heap.size, 0, none⟩ = some (.int .i64 4095) := (cell_of_row _ _ _ _ _ _ Rx4.out).trans rfl
  have x1w4 : w4.cell? ⟨w1.heap.size, 1, none⟩ = some (.int .u64 3) := (cell_of_row _ _ _ _ _ _ Rx4.out).trans rfl
  have xfw4 : ∀ o, w4.frozen? ⟨w1.heap.size, o, none⟩ = false := fun o => frozen_of_row _ _ _ _ _ Rx4.out
  have xy4 : w1.heap.size < w4.heap.size := row_lt Rx4.out
  simp only [a7, a8, a9]
  go_wp2_with fail
  refine (first_any 0 2 1 (by decide) _ (T.below hB4).alloc).mono ?_
  rintro e w5 ⟨rfl, hb5⟩
  have hsz4 := hB4.size
  have mlo : w.heap.size ≤ w4.heap.size := by omega
  have hB5 : Below w.heap.size w w5 := (hB4.alloc (by first | omega | (simp only [World.size_alloc, World.size_setCell]; omega)) _).trans (hb5.mono (by (try simp only [World.size_alloc, World.size_setCell]); omega))
  have Rx5 := Lib.hid (show w5.heap[w1.heap.size]? = some (.cells #[.int .i64 4095, .int .u64 3] 27) from row_below hb5 (row_alloc (Rx4.out)))
  have Rm5 := Lib.hid (show w5.heap[w4.heap.size]? = some (.cells #[.int .i64 0, .int .u64 1] 27) from row_below hb5 (heap_alloc_new _ (.cells #[.int .i64 0, .int .u64 1] 27)))
  clear hb5 hsz4 x0w4 x1w4 xfw4 xy4 Rx4
  have x0w5 : w5.cell? ⟨w1.heap.size, 0, none⟩ = some (.int .i64 4095) := (cell_of_row _ _ _ _ _ _ Rx5.out).trans rfl
  have x1w5 : w5.cell? ⟨w1.heap.size, 1, none⟩ = some (.int .u64 3) := (cell_of_row _ _ _ _ _ _ Rx5.out).trans rfl
  have xfw5 : ∀ o, w5.frozen? ⟨w1.heap.size, o, none⟩ = false := fun o => frozen_of_row _ _ _ _ _ Rx5.out
  have xy5 : w1.heap.size < w5.heap.size := row_lt Rx5.out
  have m0w5 : w5.cell? ⟨w4.heap.size, 0, none⟩ = some (.int .i64 0) := (cell_of_row _ _ _ _ _ _ Rm5.out).trans rfl
  have m1w5 : w5.cell? ⟨w4.heap.size, 1, none⟩ = some (.int .u64 1) := (cell_of_row _ _ _ _ _ _ Rm5.out).trans rfl
  have mfw5 : ∀ o, w5.frozen? ⟨w4.heap.size, o, none⟩ = false := fun o => frozen_of_row _ _ _ _ _ Rm5.out
  have my5 : w4.heap.size < w5.heap.size := row_lt Rm5.out
  simp only [a10, a11]
  go_wp2_with (first | (go_at_call 9; refine (add_any _ _ _).mono ?_; rintro e w' ⟨rfl, rfl⟩) | (go_at_call 10; refine (dist_any _ _ _).mono ?_; rintro e w' ⟨rfl, rfl⟩) | (go_at_call 15; refine (less_any _ _ _).mono ?_; rintro e w' ⟨rfl, rfl⟩; simp only [a12, a13]))
  go_ret
  exact ⟨rfl, hB5⟩
end Go.Proofs.YtclahaafpiekeaaDoor
