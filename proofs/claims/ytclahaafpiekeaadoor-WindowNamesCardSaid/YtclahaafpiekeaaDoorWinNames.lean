/-
  The walk of WindowNames: the chapter's examples, the limits, and further cases and errors.
-/
import Derived.Test.YtclahaafpiekeaaDoorWinAlive
namespace Go.Proofs.YtclahaafpiekeaaDoor.windowNames
open Go.ChangeShapes Go.WideShapes Go.ChangeAt Go.RowKit

theorem f1 : mkS 0 64 = 0 := by decide +kernel
theorem f2 : ((mkB 0 64 0 : Nat) : Int) = 0 := by decide +kernel
theorem f3 : mkE 0 64 = 21 := by decide +kernel
theorem f4 : mkS 0 4096 = 0 := by decide +kernel
theorem f5 : ((mkB 0 4096 0 : Nat) : Int) = 0 := by decide +kernel
theorem f6 : mkE 0 4096 = 2 := by decide +kernel
theorem f7 : mkS 4096 5000 = 0 := by decide +kernel
theorem f8 : ((mkB 4096 5000 0 : Nat) : Int) = 0 := by decide +kernel
theorem f9 : mkE 4096 5000 = 8 := by decide +kernel
theorem f10 : mvS 0 (-1) = 0 := by decide +kernel
theorem f11 : ((mvB 0 (-1) 0 : Nat) : Int) = 0 := by decide +kernel
theorem f12 : chkE 0 (-1) = 2 := by decide +kernel
theorem f13 : mvS 5 4090 = 4090 := by decide +kernel
theorem f14 : ((mvB 5 4090 9223372036854775808 : Nat) : Int) = 0 := by decide +kernel
theorem f15 : chkE 5 4090 = 0 := by decide +kernel
theorem f16 : mvS 5 4090 = 4090 := by decide +kernel
theorem f17 : ((mvB 5 4090 3 : Nat) : Int) = 6144 := by decide +kernel
theorem f18 : chkE 5 4090 = 0 := by decide +kernel
theorem f19 : fiN 0 64 18446744073709551615 = 0 := by decide +kernel
theorem f20 : fiB 0 64 18446744073709551615 = false := by decide +kernel
theorem f21 : fiN 0 65 0 = 0 := by decide +kernel
theorem f22 : fiB 0 65 0 = false := by decide +kernel
theorem f23 : fiN 0 64 9223372036854775807 = 63 := by decide +kernel
theorem f24 : fiB 0 64 9223372036854775807 = true := by decide +kernel
theorem f25 : lessB 0 2048 = false := by decide +kernel
theorem f26 : lessB 0 2047 = true := by decide +kernel
theorem f27 : lessB 7 7 = false := by decide +kernel
theorem f28 : lessB 0 4096 = false := by decide +kernel
theorem f29 : inB 0 0 0 = false := by decide +kernel
theorem f30 : inB 4090 7 0 = true := by decide +kernel

set_option maxHeartbeats 8000000 in
set_option maxRecDepth 100000 in
theorem walk (w : World) (T : Bru w) : Calls Tryd.prog 4 #[] w fun e w' => e = .returned (.bool true) ∧ Below w.heap.size w w' := by
  go_enter Tryd.func4, Tryd.ntmps4
  go_wp2_with fail
  refine (new_bad 4096 (by decide) _).mono ?_
  rintro e w1 ⟨rfl, hb1⟩
  have hB1 : Below w.heap.size w w1 := hb1
  clear hb1
  go_wp2_with fail
  refine (new_bad (-1) (by decide) _).mono ?_
  rintro e w2 ⟨rfl, hb2⟩
  have hsz1 := hB1.size
  have hB2 : Below w.heap.size w w2 := (hB1.alloc (by first | omega | (simp only [World.size_alloc, World.size_setCell]; omega)) _).trans (hb2.mono (by (try simp only [World.size_alloc, World.size_setCell]); omega))
  clear hb2 hsz1 
  go_wp2_with fail
  refine (mark_any 0 64 0 (by decide) _).mono ?_
  rintro e w3 ⟨rfl, hb3⟩
  have hsz2 := hB2.size
  have hB3 : Below w.heap.size w w3 := (hB2.alloc (by first | omega | (simp only [World.size_alloc, World.size_setCell]; omega)) _).trans (hb3.mono (by (try simp only [World.size_alloc, World.size_setCell]); omega))
  clear hb3 hsz2 
  simp only [f1, f2, f3]
  go_wp2_with fail
  refine (mark_any 0 4096 0 (by decide) _).mono ?_
  rintro e w4 ⟨rfl, hb4⟩
  have hsz3 := hB3.size
  have hB4 : Below w.heap.size w w4 := (hB3.alloc (by first | omega | (simp only [World.size_alloc, World.size_setCell]; omega)) _).trans (hb4.mono (by (try simp only [World.size_alloc, World.size_setCell]); omega))
  clear hb4 hsz3 
  simp only [f4, f5, f6]
  go_wp2_with fail
  refine (mark_any 4096 5000 0 (by decide) _).mono ?_
  rintro e w5 ⟨rfl, hb5⟩
  have hsz4 := hB4.size
  have hB5 : Below w.heap.size w w5 := (hB4.alloc (by first | omega | (simp only [World.size_alloc, World.size_setCell]; omega)) _).trans (hb5.mono (by (try simp only [World.size_alloc, World.size_setCell]); omega))
  clear hb5 hsz4 
  simp only [f7, f8, f9]
  go_wp2_with fail
  refine (move_any 0 (-1) 0 (by decide) _).mono ?_
  rintro e w6 ⟨rfl, hb6⟩
  have hsz5 := hB5.size
  have hB6 : Below w.heap.size w w6 := (hB5.alloc (by first | omega | (simp only [World.size_alloc, World.size_setCell]; omega)) _).trans (hb6.mono (by (try simp only [World.size_alloc, World.size_setCell]); omega))
  clear hb6 hsz5 
  simp only [f10, f11, f12]
  go_wp2_with fail
  refine (move_any 5 4090 9223372036854775808 (by decide) _).mono ?_
  rintro e w7 ⟨rfl, hb7⟩
  have hsz6 := hB6.size
  have hB7 : Below w.heap.size w w7 := (hB6.alloc (by first | omega | (simp only [World.size_alloc, World.size_setCell]; omega)) _).trans (hb7.mono (by (try simp only [World.size_alloc, World.size_setCell]); omega))
  clear hb7 hsz6 
  simp only [f13, f14, f15]
  go_wp2_with fail
  refine (move_any 5 4090 3 (by decide) _).mono ?_
  rintro e w8 ⟨rfl, hb8⟩
  have hsz7 := hB7.size
  have blo : w.heap.size ≤ w7.heap.size := by omega
  have hB8 : Below w.heap.size w w8 := (hB7.alloc (by first | omega | (simp only [World.size_alloc, World.size_setCell]; omega)) _).trans (hb8.mono (by (try simp only [World.size_alloc, World.size_setCell]); omega))
  have Rb8 := Lib.hid (show w8.heap[w7.heap.size]? = some (.cells #[.int .i64 4090, .int .u64 0] 27) from row_below hb8 (heap_alloc_new _ (.cells #[.int .i64 4090, .int .u64 0] 27)))
  clear hb8 hsz7 
  have b0w8 : w8.cell? ⟨w7.heap.size, 0, none⟩ = some (.int .i64 4090) := (cell_of_row _ _ _ _ _ _ Rb8.out).trans rfl
  have b1w8 : w8.cell? ⟨w7.heap.size, 1, none⟩ = some (.int .u64 0) := (cell_of_row _ _ _ _ _ _ Rb8.out).trans rfl
  have bfw8 : ∀ o, w8.frozen? ⟨w7.heap.size, o, none⟩ = false := fun o => frozen_of_row _ _ _ _ _ Rb8.out
  have by8 : w7.heap.size < w8.heap.size := row_lt Rb8.out
  simp only [f16, f17, f18]
  go_wp2_with fail
  refine (first_any 0 64 18446744073709551615 (by decide) _ (T.below hB8).alloc).mono ?_
  rintro e w9 ⟨rfl, hb9⟩
  have hsz8 := hB8.size
  have clo : w.heap.size ≤ w8.heap.size := by omega
  have hB9 : Below w.heap.size w w9 := (hB8.alloc (by first | omega | (simp only [World.size_alloc, World.size_setCell]; omega)) _).trans (hb9.mono (by (try simp only [World.size_alloc, World.size_setCell]); omega))
  have Rb9 := Lib.hid (show w9.heap[w7.heap.size]? = some (.cells #[.int .i64 4090, .int .u64 0] 27) from row_below hb9 (row_alloc (Rb8.out)))
  have Rc9 := Lib.hid (show w9.heap[w8.heap.size]? = some (.cells #[.int .i64 4090, .int .u64 6144] 27) from row_below hb9 (heap_alloc_new _ (.cells #[.int .i64 4090, .int .u64 6144] 27)))
  clear hb9 hsz8 b0w8 b1w8 bfw8 by8 Rb8
  have b0w9 : w9.cell? ⟨w7.heap.size, 0, none⟩ = some (.int .i64 4090) := (cell_of_row _ _ _ _ _ _ Rb9.out).trans rfl
  have b1w9 : w9.cell? ⟨w7.heap.size, 1, none⟩ = some (.int .u64 0) := (cell_of_row _ _ _ _ _ _ Rb9.out).trans rfl
  have bfw9 : ∀ o, w9.frozen? ⟨w7.heap.size, o, none⟩ = false := fun o => frozen_of_row _ _ _ _ _ Rb9.out
  have by9 : w7.heap.size < w9.heap.size := row_lt Rb9.out
  have c0w9 : w9.cell? ⟨w8.heap.size, 0, none⟩ = some (.int .i64 4090) := (cell_of_row _ _ _ _ _ _ Rc9.out).trans rfl
  have c1w9 : w9.cell? ⟨w8.heap.size, 1, none⟩ = some (.int .u64 6144) := (cell_of_row _ _ _ _ _ _ Rc9.out).trans rfl
  have cfw9 : ∀ o, w9.frozen? ⟨w8.heap.size, o, none⟩ = false := fun o => frozen_of_row _ _ _ _ _ Rc9.out
  have cy9 : w8.heap.size < w9.heap.size := row_lt Rc9.out
  simp only [f19, f20]
  go_wp2_with fail
  refine (first_any 0 65 0 (by decide) _ (T.below hB9)).mono ?_
  rintro e w10 ⟨rfl, hb10⟩
  have hsz9 := hB9.size
  have hB10 : Below w.heap.size w w10 := hB9.trans (hb10.mono (by (try simp only [World.size_alloc, World.size_setCell]); omega))
  have Rb10 := Lib.hid (show w10.heap[w7.heap.size]? = some (.cells #[.int .i64 4090, .int .u64 0] 27) from row_below hb10 (Rb9.out))
  have Rc10 := Lib.hid (show w10.heap[w8.heap.size]? = some (.cells #[.int .i64 4090, .int .u64 6144] 27) from row_below hb10 (Rc9.out))
  clear hb10 hsz9 b0w9 b1w9 bfw9 by9 Rb9 c0w9 c1w9 cfw9 cy9 Rc9
  have b0w10 : w10.cell? ⟨w7.heap.size, 0, none⟩ = some (.int .i64 4090) := (cell_of_row _ _ _ _ _ _ Rb10.out).trans rfl
  have b1w10 : w10.cell? ⟨w7.heap.size, 1, none⟩ = some (.int .u64 0) := (cell_of_row _ _ _ _ _ _ Rb10.out).trans rfl
  have bfw10 : ∀ o, w10.frozen? ⟨w7.heap.size, o, none⟩ = false := fun o => frozen_of_row _ _ _ _ _ Rb10.out
  have by10 : w7.heap.size < w10.heap.size := row_lt Rb10.out
  have c0w10 : w10.cell? ⟨w8.heap.size, 0, none⟩ = some (.int .i64 4090) := (cell_of_row _ _ _ _ _ _ Rc10.out).trans rfl
  have c1w10 : w10.cell? ⟨w8.heap.size, 1, none⟩ = some (.int .u64 6144) := (cell_of_row _ _ _ _ _ _ Rc10.out).trans rfl
  have cfw10 : ∀ o, w10.frozen? ⟨w8.heap.size, o, none⟩ = false := fun o => frozen_of_row _ _ _ _ _ Rc10.out
  have cy10 : w8.heap.size < w10.heap.size := row_lt Rc10.out
  simp only [f21, f22]
  go_wp2_with fail
  refine (first_any 0 64 9223372036854775807 (by decide) _ (T.below hB10)).mono ?_
  rintro e w11 ⟨rfl, hb11⟩
  have hsz10 := hB10.size
  have hB11 : Below w.heap.size w w11 := hB10.trans (hb11.mono (by (try simp only [World.size_alloc, World.size_setCell]); omega))
  have Rb11 := Lib.hid (show w11.heap[w7.heap.size]? = some (.cells #[.int .i64 4090, .int .u64 0] 27) from row_below hb11 (Rb10.out))
  have Rc11 := Lib.hid (show w11.heap[w8.heap.size]? = some (.cells #[.int .i64 4090, .int .u64 6144] 27) from row_below hb11 (Rc10.out))
  clear hb11 hsz10 b0w10 b1w10 bfw10 by10 Rb10 c0w10 c1w10 cfw10 cy10 Rc10
  have b0w11 : w11.cell? ⟨w7.heap.size, 0, none⟩ = some (.int .i64 4090) := (cell_of_row _ _ _ _ _ _ Rb11.out).trans rfl
  have b1w11 : w11.cell? ⟨w7.heap.size, 1, none⟩ = some (.int .u64 0) := (cell_of_row _ _ _ _ _ _ Rb11.out).trans rfl
  have bfw11 : ∀ o, w11.frozen? ⟨w7.heap.size, o, none⟩ = false := fun o => frozen_of_row _ _ _ _ _ Rb11.out
  have by11 : w7.heap.size < w11.heap.size := row_lt Rb11.out
  have c0w11 : w11.cell? ⟨w8.heap.size, 0, none⟩ = some (.int .i64 4090) := (cell_of_row _ _ _ _ _ _ Rc11.out).trans rfl
  have c1w11 : w11.cell? ⟨w8.heap.size, 1, none⟩ = some (.int .u64 6144) := (cell_of_row _ _ _ _ _ _ Rc11.out).trans rfl
  have cfw11 : ∀ o, w11.frozen? ⟨w8.heap.size, o, none⟩ = false := fun o => frozen_of_row _ _ _ _ _ Rc11.out
  have cy11 : w8.heap.size < w11.heap.size := row_lt Rc11.out
  simp only [f23, f24]
  go_wp2_with fail
  refine (walive_any _ (T.below hB11)).mono ?_
  rintro e w12 ⟨rfl, hb12⟩
  have hsz11 := hB11.size
  have hB12 : Below w.heap.size w w12 := hB11.trans (hb12.mono (by (try simp only [World.size_alloc, World.size_setCell]); omega))
  have Rb12 := Lib.hid (show w12.heap[w7.heap.size]? = some (.cells #[.int .i64 4090, .int .u64 0] 27) from row_below hb12 (Rb11.out))
  have Rc12 := Lib.hid (show w12.heap[w8.heap.size]? = some (.cells #[.int .i64 4090, .int .u64 6144] 27) from row_below hb12 (Rc11.out))
  clear hb12 hsz11 b0w11 b1w11 bfw11 by11 Rb11 c0w11 c1w11 cfw11 cy11 Rc11
  have b0w12 : w12.cell? ⟨w7.heap.size, 0, none⟩ = some (.int .i64 4090) := (cell_of_row _ _ _ _ _ _ Rb12.out).trans rfl
  have b1w12 : w12.cell? ⟨w7.heap.size, 1, none⟩ = some (.int .u64 0) := (cell_of_row _ _ _ _ _ _ Rb12.out).trans rfl
  have bfw12 : ∀ o, w12.frozen? ⟨w7.heap.size, o, none⟩ = false := fun o => frozen_of_row _ _ _ _ _ Rb12.out
  have by12 : w7.heap.size < w12.heap.size := row_lt Rb12.out
  have c0w12 : w12.cell? ⟨w8.heap.size, 0, none⟩ = some (.int .i64 4090) := (cell_of_row _ _ _ _ _ _ Rc12.out).trans rfl
  have c1w12 : w12.cell? ⟨w8.heap.size, 1, none⟩ = some (.int .u64 6144) := (cell_of_row _ _ _ _ _ _ Rc12.out).trans rfl
  have cfw12 : ∀ o, w12.frozen? ⟨w8.heap.size, o, none⟩ = false := fun o => frozen_of_row _ _ _ _ _ Rc12.out
  have cy12 : w8.heap.size < w12.heap.size := row_lt Rc12.out
  go_wp2_with (first | (go_at_call 9; refine (add_any _ _ _).mono ?_; rintro e w' ⟨rfl, rfl⟩) | (go_at_call 15; refine (less_any _ _ _).mono ?_; rintro e w' ⟨rfl, rfl⟩; simp only [f25, f26, f27, f28, f29, f30]) | (go_at_call 16; refine (in_any _ _ _ _).mono ?_; rintro e w' ⟨rfl, rfl⟩; simp only [f25, f26, f27, f28, f29, f30]))
  go_ret
  exact ⟨rfl, hB12⟩
end Go.Proofs.YtclahaafpiekeaaDoor.windowNames
