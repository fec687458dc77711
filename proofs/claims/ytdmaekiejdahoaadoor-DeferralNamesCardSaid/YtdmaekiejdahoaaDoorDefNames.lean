/-
  The walk of DeferralNames: the limits, errors, and further examples.
-/
import Derived.Test.YtdmaekiejdahoaaDoorDoorAlive
import Derived.Test.YtdmaekiejdahoaaDoorDoorHeard
namespace Go.Proofs.YtdmaekiejdahoaaDoor.deferralNames
open Go.ChangeShapes Go.WideShapes Go.ChangeAt Go.RowKit Go.Great

def hdA : Array Value := #[.int .u8 0, .int .u8 0, .bool false, .bool false, .bool false, .bool false, .bool false, .bool false, .bool false, .int .i64 32768, .int .u8 0, .int .u8 0, .int .u8 0, .int .u8 0, .int .u8 0, .int .u8 0, .int .u8 0, .int .u8 0, .int .u8 0, .int .u8 0, .int .u8 0, .int .u8 0, .int .u8 0, .int .u8 0, .int .u8 0, .int .u8 0, .int .u8 0, .int .u8 0, .int .u8 0, .int .u8 0, .int .u8 0, .int .u8 0, .int .u8 0, .int .u8 0, .int .i64 0, .int .i64 0, .int .i64 0, .int .u8 0, .bool false, .bool false]
theorem head_hdA : Head hdA 0 0 32768 0 0 0 0 0 0 := ⟨rfl, rfl, rfl, rfl, rfl, rfl, rfl, rfl, rfl, rfl⟩
def hdB : Array Value := #[.int .u8 0, .int .u8 0, .bool false, .bool false, .bool false, .bool false, .bool false, .bool false, .bool false, .int .i64 9999, .int .u8 2, .int .u8 0, .int .u8 0, .int .u8 0, .int .u8 0, .int .u8 9, .int .u8 0, .int .u8 0, .int .u8 0, .int .u8 0, .int .u8 0, .int .u8 0, .int .u8 0, .int .u8 0, .int .u8 0, .int .u8 0, .int .u8 0, .int .u8 0, .int .u8 0, .int .u8 0, .int .u8 0, .int .u8 0, .int .u8 0, .int .u8 0, .int .i64 0, .int .i64 0, .int .i64 0, .int .u8 0, .bool false, .bool false]
theorem head_hdB : Head hdB 0 0 9999 2 0 0 0 0 9 := ⟨rfl, rfl, rfl, rfl, rfl, rfl, rfl, rfl, rfl, rfl⟩
def hdC : Array Value := #[.int .u8 0, .int .u8 0, .bool false, .bool false, .bool false, .bool false, .bool false, .bool false, .bool false, .int .i64 10, .int .u8 2, .int .u8 0, .int .u8 0, .int .u8 0, .int .u8 0, .int .u8 9, .int .u8 0, .int .u8 0, .int .u8 0, .int .u8 0, .int .u8 0, .int .u8 0, .int .u8 0, .int .u8 0, .int .u8 0, .int .u8 0, .int .u8 0, .int .u8 0, .int .u8 0, .int .u8 0, .int .u8 0, .int .u8 0, .int .u8 0, .int .u8 0, .int .i64 0, .int .i64 0, .int .i64 0, .int .u8 0, .bool false, .bool false]
theorem head_hdC : Head hdC 0 0 10 2 0 0 0 0 9 := ⟨rfl, rfl, rfl, rfl, rfl, rfl, rfl, rfl, rfl, rfl⟩
theorem head_zero : Head zeroHd 0 0 0 0 0 0 0 0 0 := ⟨rfl, rfl, rfl, rfl, rfl, rfl, rfl, rfl, rfl, rfl⟩
theorem f1 : spaceN 4 = 0 := by decide
theorem f2 : spaceE 4 = 2 := by decide
theorem f3 : earN 0 0 0 4 = 0 := by decide
theorem f4 : earE 0 0 0 4 = 2 := by decide
theorem f5 : untN (-1) 0 = 0 := by decide
theorem f6 : navE (-1) 0 = 8 := by decide
theorem f7 : resB 0 0 2199023255553 = false := by decide
theorem f8 : resE 0 0 2199023255553 = 2 := by decide
theorem f9 : hU 0 0 0 32768 0 (addrB 0 0 0 0 0 0 2 0 0 0 0 9) = 0 := by decide
theorem f10 : hL 0 0 0 32768 0 (addrB 0 0 0 0 0 0 2 0 0 0 0 9) (reqB 0 0) = 0 := by decide
theorem f11 : hE 0 0 0 32768 0 = 2 := by decide
theorem f12 : hU 0 0 1099511627777 0 0 (addrB 0 0 0 0 0 0 2 0 0 0 0 9) = 0 := by decide
theorem f13 : hL 0 0 1099511627777 0 0 (addrB 0 0 0 0 0 0 2 0 0 0 0 9) (reqB 0 0) = 0 := by decide
theorem f14 : hE 0 0 1099511627777 0 0 = 2 := by decide
theorem f15 : hU 0 2199023255553 0 0 0 (addrB 0 0 0 0 0 0 2 0 0 0 0 9) = 0 := by decide
theorem f16 : hL 0 2199023255553 0 0 0 (addrB 0 0 0 0 0 0 2 0 0 0 0 9) (reqB 0 0) = 0 := by decide
theorem f17 : hE 0 2199023255553 0 0 0 = 8 := by decide
theorem f18 : hU 600 170 150 9999 0 (addrB 2 0 0 0 0 9 2 0 0 0 0 9) = 600 := by decide
theorem f19 : hL 600 170 150 9999 0 (addrB 2 0 0 0 0 9 2 0 0 0 0 9) (reqB 0 0) = 0 := by decide
theorem f20 : hE 600 170 150 9999 0 = 0 := by decide
theorem f21 : hU 600 170 150 10 0 (addrB 2 0 0 0 0 9 0 0 0 0 0 0) = 600 := by decide
theorem f22 : hL 600 170 150 10 0 (addrB 2 0 0 0 0 9 0 0 0 0 0 0) (reqB 0 0) = 0 := by decide
theorem f23 : hE 600 170 150 10 0 = 0 := by decide
theorem f24 : hU 600 170 171 10 0 (addrB 2 0 0 0 0 9 0 0 0 0 0 0) = 181 := by decide
theorem f25 : hL 600 170 171 10 0 (addrB 2 0 0 0 0 9 0 0 0 0 0 0) (reqB 0 0) = 0 := by decide
theorem f26 : hE 600 170 171 10 0 = 0 := by decide
theorem f27 : slotN 0 0 100 3 151 = 1 := by decide
theorem f28 : slotE 0 0 100 3 151 = 0 := by decide
theorem f29 : slotN 0 0 100 3 152 = 2 := by decide
theorem f30 : slotE 0 0 100 3 152 = 0 := by decide
theorem f31 : resB 600 170 169 = true := by decide
theorem f32 : resE 600 170 169 = 0 := by decide
theorem f33 : resB 600 170 170 = false := by decide
theorem f34 : resE 600 170 170 = 0 := by decide

set_option maxHeartbeats 8000000 in
set_option maxRecDepth 100000 in
theorem walk (w : World) (T : Tab w) (O : Oth w) : Calls Tryd.prog 7 #[] w fun e w' => e = .returned (.bool true) ∧ Below w.heap.size w w' := by
  go_enter Tryd.func7, Tryd.ntmps7
  go_wp2_with fail
  refine (space_any 4 (by decide) _ T).mono ?_
  rintro e w1 ⟨rfl, hb1⟩
  have hB1 : Below w.heap.size w w1 := hb1
  clear hb1
  simp only [f1, f2]
  go_wp2_with fail
  refine (earliest_all 0 0 0 4 (by decide) _ (T.below hB1)).mono ?_
  rintro e w2 ⟨rfl, hb2⟩
  have hsz1 := hB1.size
  have hB2 : Below w.heap.size w w2 := hB1.trans (hb2.mono (by (try simp only [World.size_alloc, World.size_setCell]); omega))
  clear hb2 hsz1 
  simp only [f3, f4]
  go_wp2_with fail
  refine (until_all (-1) 0 _).mono ?_
  rintro e w3 ⟨rfl, hb3⟩
  have hsz2 := hB2.size
  have hB3 : Below w.heap.size w w3 := hB2.trans (hb3.mono (by (try simp only [World.size_alloc, World.size_setCell]); omega))
  clear hb3 hsz2 
  simp only [f5, f6]
  go_wp2_with fail
  refine (reserved_all 0 0 2199023255553 _).mono ?_
  rintro e w4 ⟨rfl, hb4⟩
  have hsz3 := hB3.size
  have hB4 : Below w.heap.size w w4 := hB3.trans (hb4.mono (by (try simp only [World.size_alloc, World.size_setCell]); omega))
  clear hb4 hsz3 
  simp only [f7, f8]
  obtain ⟨o0w4, o1w4, o2w4, o3w4, o4w4, o5w4⟩ := O.below hB4
  have oyw4 : 0 < w4.heap.size := World.block_lt_of_cell? _ _ o0w4
  go_wp2_with (with_reducible refine wpList_runTo rfl (some 53) rfl (.agg hdA) (w4) (by as_aux_lemma => kernel_rfl) ?_; simp only [Act.put, List.setIfInBounds_toArray, List.set_cons_succ, List.set_cons_zero])
  refine (heard_any 0 0 2 0 0 0 0 9 hdA 0 0 32768 0 0 0 0 0 0 0 0 head_hdA (by decide) (by decide) (by decide) (by decide) (by decide) (by decide) (by decide) (by decide) (by decide) (by decide) (by decide) (by decide) _).mono ?_
  rintro e w5 ⟨rfl, hb5⟩
  have hsz4 := hB4.size
  have hB5 : Below w.heap.size w w5 := hB4.trans (hb5.mono (by (try simp only [World.size_alloc, World.size_setCell]); omega))
  clear hb5 hsz4 
  clear o0w4 o1w4 o2w4 o3w4 o4w4 o5w4 oyw4
  simp only [f9, f10, f11]
  obtain ⟨o0w5, o1w5, o2w5, o3w5, o4w5, o5w5⟩ := O.below hB5
  have oyw5 : 0 < w5.heap.size := World.block_lt_of_cell? _ _ o0w5
  go_wp2_with (with_reducible refine wpList_runTo rfl (some 60) rfl (.agg zeroHd) (w5.alloc (.cells #[.int .i64 0, .int .i64 0] 23)) (by as_aux_lemma => kernel_rfl) ?_; simp only [Act.put, List.setIfInBounds_toArray, List.set_cons_succ, List.set_cons_zero])
  refine (heard_any 0 0 2 0 0 0 0 9 zeroHd 0 0 0 0 0 0 0 0 0 1099511627777 0 head_zero (by decide) (by decide) (by decide) (by decide) (by decide) (by decide) (by decide) (by decide) (by decide) (by decide) (by decide) (by decide) _).mono ?_
  rintro e w6 ⟨rfl, hb6⟩
  have hsz5 := hB5.size
  have hB6 : Below w.heap.size w w6 := (hB5.alloc (by first | omega | (simp only [World.size_alloc, World.size_setCell]; omega)) _).trans (hb6.mono (by (try simp only [World.size_alloc, World.size_setCell]); omega))
  clear hb6 hsz5 
  clear o0w5 o1w5 o2w5 o3w5 o4w5 o5w5 oyw5
  simp only [f12, f13, f14]
  obtain ⟨o0w6, o1w6, o2w6, o3w6, o4w6, o5w6⟩ := O.below hB6
  have oyw6 : 0 < w6.heap.size := World.block_lt_of_cell? _ _ o0w6
  go_wp2_with (with_reducible refine wpList_runTo rfl (some 67) rfl (.agg zeroHd) (w6.alloc (.cells #[.int .i64 0, .int .i64 0] 23)) (by as_aux_lemma => kernel_rfl) ?_; simp only [Act.put, List.setIfInBounds_toArray, List.set_cons_succ, List.set_cons_zero])
  refine (heard_any 0 2199023255553 2 0 0 0 0 9 zeroHd 0 0 0 0 0 0 0 0 0 0 0 head_zero (by decide) (by decide) (by decide) (by decide) (by decide) (by decide) (by decide) (by decide) (by decide) (by decide) (by decide) (by decide) _).mono ?_
  rintro e w7 ⟨rfl, hb7⟩
  have hsz6 := hB6.size
  have hB7 : Below w.heap.size w w7 := (hB6.alloc (by first | omega | (simp only [World.size_alloc, World.size_setCell]; omega)) _).trans (hb7.mono (by (try simp only [World.size_alloc, World.size_setCell]); omega))
  clear hb7 hsz6 
  clear o0w6 o1w6 o2w6 o3w6 o4w6 o5w6 oyw6
  simp only [f15, f16, f17]
  obtain ⟨o0w7, o1w7, o2w7, o3w7, o4w7, o5w7⟩ := O.below hB7
  have oyw7 : 0 < w7.heap.size := World.block_lt_of_cell? _ _ o0w7
  go_wp2_with (with_reducible refine wpList_runTo rfl (some 76) rfl (.agg hdB) ((w7.alloc (.cells #[.int .i64 0, .int .i64 0] 23)).alloc (.cells #[.int .i64 600, .int .i64 170] 23)) (by as_aux_lemma => kernel_rfl) ?_; simp only [Act.put, List.setIfInBounds_toArray, List.set_cons_succ, List.set_cons_zero])
  refine (heard_any 600 170 2 0 0 0 0 9 hdB 0 0 9999 2 0 0 0 0 9 150 0 head_hdB (by decide) (by decide) (by decide) (by decide) (by decide) (by decide) (by decide) (by decide) (by decide) (by decide) (by decide) (by decide) _).mono ?_
  rintro e w8 ⟨rfl, hb8⟩
  have hsz7 := hB7.size
  have hlo : w.heap.size ≤ w7.heap.size + 1 := by omega
  have hB8 : Below w.heap.size w w8 := ((hB7.alloc (by first | omega | (simp only [World.size_alloc, World.size_setCell]; omega)) _).alloc (by first | omega | (simp only [World.size_alloc, World.size_setCell]; omega)) _).trans (hb8.mono (by (try simp only [World.size_alloc, World.size_setCell]); omega))
  have Rh8 := Lib.hid (show w8.heap[w7.heap.size + 1]? = some (.cells #[.int .i64 600, .int .i64 170] 23) from row_below hb8 (heap_alloc2_new _ _ (.cells #[.int .i64 600, .int .i64 170] 23)))
  clear hb8 hsz7 
  have h0w8 : w8.cell? ⟨w7.heap.size + 1, 0, none⟩ = some (.int .i64 600) := (cell_of_row _ _ _ _ _ _ Rh8.out).trans rfl
  have h1w8 : w8.cell? ⟨w7.heap.size + 1, 1, none⟩ = some (.int .i64 170) := (cell_of_row _ _ _ _ _ _ Rh8.out).trans rfl
  have hfw8 : ∀ o, w8.frozen? ⟨w7.heap.size + 1, o, none⟩ = false := fun o => frozen_of_row _ _ _ _ _ Rh8.out
  have hy8 : w7.heap.size + 1 < w8.heap.size := row_lt Rh8.out
  clear o0w7 o1w7 o2w7 o3w7 o4w7 o5w7 oyw7
  simp only [f18, f19, f20]
  obtain ⟨o0w8, o1w8, o2w8, o3w8, o4w8, o5w8⟩ := O.below hB8
  have oyw8 : 0 < w8.heap.size := World.block_lt_of_cell? _ _ o0w8
  go_wp2_with (with_reducible refine wpList_runTo rfl (some 84) rfl (.agg hdC) (w8.alloc (.cells #[.int .i64 600, .int .i64 0] 23)) (by as_aux_lemma => kernel_rfl) ?_; simp only [Act.put, List.setIfInBounds_toArray, List.set_cons_succ, List.set_cons_zero])
  refine (heard_any 600 170 0 0 0 0 0 0 hdC 0 0 10 2 0 0 0 0 9 150 0 head_hdC (by decide) (by decide) (by decide) (by decide) (by decide) (by decide) (by decide) (by decide) (by decide) (by decide) (by decide) (by decide) _).mono ?_
  rintro e w9 ⟨rfl, hb9⟩
  have hsz8 := hB8.size
  have mlo : w.heap.size ≤ w8.heap.size := by omega
  have hB9 : Below w.heap.size w w9 := (hB8.alloc (by first | omega | (simp only [World.size_alloc, World.size_setCell]; omega)) _).trans (hb9.mono (by (try simp only [World.size_alloc, World.size_setCell]); omega))
  have Rh9 := Lib.hid (show w9.heap[w7.heap.size + 1]? = some (.cells #[.int .i64 600, .int .i64 170] 23) from row_below hb9 (row_alloc (Rh8.out)))
  have Rm9 := Lib.hid (show w9.heap[w8.heap.size]? = some (.cells #[.int .i64 600, .int .i64 0] 23) from row_below hb9 (heap_alloc_new _ (.cells #[.int .i64 600, .int .i64 0] 23)))
  clear hb9 hsz8 h0w8 h1w8 hfw8 hy8 Rh8
  have h0w9 : w9.cell? ⟨w7.heap.size + 1, 0, none⟩ = some (.int .i64 600) := (cell_of_row _ _ _ _ _ _ Rh9.out).trans rfl
  have h1w9 : w9.cell? ⟨w7.heap.size + 1, 1, none⟩ = some (.int .i64 170) := (cell_of_row _ _ _ _ _ _ Rh9.out).trans rfl
  have hfw9 : ∀ o, w9.frozen? ⟨w7.heap.size + 1, o, none⟩ = false := fun o => frozen_of_row _ _ _ _ _ Rh9.out
  have hy9 : w7.heap.size + 1 < w9.heap.size := row_lt Rh9.out
  have m0w9 : w9.cell? ⟨w8.heap.size, 0, none⟩ = some (.int .i64 600) := (cell_of_row _ _ _ _ _ _ Rm9.out).trans rfl
  have m1w9 : w9.cell? ⟨w8.heap.size, 1, none⟩ = some (.int .i64 0) := (cell_of_row _ _ _ _ _ _ Rm9.out).trans rfl
  have mfw9 : ∀ o, w9.frozen? ⟨w8.heap.size, o, none⟩ = false := fun o => frozen_of_row _ _ _ _ _ Rm9.out
  have my9 : w8.heap.size < w9.heap.size := row_lt Rm9.out
  clear o0w8 o1w8 o2w8 o3w8 o4w8 o5w8 oyw8
  simp only [f21, f22, f23]
  obtain ⟨o0w9, o1w9, o2w9, o3w9, o4w9, o5w9⟩ := O.below hB9
  have oyw9 : 0 < w9.heap.size := World.block_lt_of_cell? _ _ o0w9
  go_wp2_with (with_reducible refine wpList_runTo rfl (some 92) rfl (.agg hdC) (w9.alloc (.cells #[.int .i64 600, .int .i64 0] 23)) (by as_aux_lemma => kernel_rfl) ?_; simp only [Act.put, List.setIfInBounds_toArray, List.set_cons_succ, List.set_cons_zero])
  refine (heard_any 600 170 0 0 0 0 0 0 hdC 0 0 10 2 0 0 0 0 9 171 0 head_hdC (by decide) (by decide) (by decide) (by decide) (by decide) (by decide) (by decide) (by decide) (by decide) (by decide) (by decide) (by decide) _).mono ?_
  rintro e w10 ⟨rfl, hb10⟩
  have hsz9 := hB9.size
  have slo : w.heap.size ≤ w9.heap.size := by omega
  have hB10 : Below w.heap.size w w10 := (hB9.alloc (by first | omega | (simp only [World.size_alloc, World.size_setCell]; omega)) _).trans (hb10.mono (by (try simp only [World.size_alloc, World.size_setCell]); omega))
  have Rh10 := Lib.hid (show w10.heap[w7.heap.size + 1]? = some (.cells #[.int .i64 600, .int .i64 170] 23) from row_below hb10 (row_alloc (Rh9.out)))
  have Rm10 := Lib.hid (show w10.heap[w8.heap.size]? = some (.cells #[.int .i64 600, .int .i64 0] 23) from row_below hb10 (row_alloc (Rm9.out)))
  have Rs10 := Lib.hid (show w10.heap[w9.heap.size]? = some (.cells #[.int .i64 600, .int .i64 0] 23) from row_below hb10 (heap_alloc_new _ (.cells #[.int .i64 600, .int .i64 0] 23)))
  clear hb10 hsz9 h0w9 h1w9 hfw9 hy9 Rh9 m0w9 m1w9 mfw9 my9 Rm9
  have h0w10 : w10.cell? ⟨w7.heap.size + 1, 0, none⟩ = some (.int .i64 600) := (cell_of_row _ _ _ _ _ _ Rh10.out).trans rfl
  have h1w10 : w10.cell? ⟨w7.heap.size + 1, 1, none⟩ = some (.int .i64 170) := (cell_of_row _ _ _ _ _ _ Rh10.out).trans rfl
  have hfw10 : ∀ o, w10.frozen? ⟨w7.heap.size + 1, o, none⟩ = false := fun o => frozen_of_row _ _ _ _ _ Rh10.out
  have hy10 : w7.heap.size + 1 < w10.heap.size := row_lt Rh10.out
  have m0w10 : w10.cell? ⟨w8.heap.size, 0, none⟩ = some (.int .i64 600) := (cell_of_row _ _ _ _ _ _ Rm10.out).trans rfl
  have m1w10 : w10.cell? ⟨w8.heap.size, 1, none⟩ = some (.int .i64 0) := (cell_of_row _ _ _ _ _ _ Rm10.out).trans rfl
  have mfw10 : ∀ o, w10.frozen? ⟨w8.heap.size, o, none⟩ = false := fun o => frozen_of_row _ _ _ _ _ Rm10.out
  have my10 : w8.heap.size < w10.heap.size := row_lt Rm10.out
  have s0w10 : w10.cell? ⟨w9.heap.size, 0, none⟩ = some (.int .i64 600) := (cell_of_row _ _ _ _ _ _ Rs10.out).trans rfl
  have s1w10 : w10.cell? ⟨w9.heap.size, 1, none⟩ = some (.int .i64 0) := (cell_of_row _ _ _ _ _ _ Rs10.out).trans rfl
  have sfw10 : ∀ o, w10.frozen? ⟨w9.heap.size, o, none⟩ = false := fun o => frozen_of_row _ _ _ _ _ Rs10.out
  have sy10 : w9.heap.size < w10.heap.size := row_lt Rs10.out
  clear o0w9 o1w9 o2w9 o3w9 o4w9 o5w9 oyw9
  simp only [f24, f25, f26]
  go_wp2_with fail
  refine (slots_all 0 0 100 3 151 (by decide) _ (T.below hB10).alloc).mono ?_
  rintro e w11 ⟨rfl, hb11⟩
  have hsz10 := hB10.size
  have tlo : w.heap.size ≤ w10.heap.size := by omega
  have hB11 : Below w.heap.size w w11 := (hB10.alloc (by first | omega | (simp only [World.size_alloc, World.size_setCell]; omega)) _).trans (hb11.mono (by (try simp only [World.size_alloc, World.size_setCell]); omega))
  have Rh11 := Lib.hid (show w11.heap[w7.heap.size + 1]? = some (.cells #[.int .i64 600, .int .i64 170] 23) from row_below hb11 (row_alloc (Rh10.out)))
  have Rm11 := Lib.hid (show w11.heap[w8.heap.size]? = some (.cells #[.int .i64 600, .int .i64 0] 23) from row_below hb11 (row_alloc (Rm10.out)))
  have Rs11 := Lib.hid (show w11.heap[w9.heap.size]? = some (.cells #[.int .i64 600, .int .i64 0] 23) from row_below hb11 (row_alloc (Rs10.out)))
  have Rt11 := Lib.hid (show w11.heap[w10.heap.size]? = some (.cells #[.int .i64 181, .int .i64 0] 23) from row_below hb11 (heap_alloc_new _ (.cells #[.int .i64 181, .int .i64 0] 23)))
  clear hb11 hsz10 h0w10 h1w10 hfw10 hy10 Rh10 m0w10 m1w10 mfw10 my10 Rm10 s0w10 s1w10 sfw10 sy10 Rs10
  have h0w11 : w11.cell? ⟨w7.heap.size + 1, 0, none⟩ = some (.int .i64 600) := (cell_of_row _ _ _ _ _ _ Rh11.out).trans rfl
  have h1w11 : w11.cell? ⟨w7.heap.size + 1, 1, none⟩ = some (.int .i64 170) := (cell_of_row _ _ _ _ _ _ Rh11.out).trans rfl
  have hfw11 : ∀ o, w11.frozen? ⟨w7.heap.size + 1, o, none⟩ = false := fun o => frozen_of_row _ _ _ _ _ Rh11.out
  have hy11 : w7.heap.size + 1 < w11.heap.size := row_lt Rh11.out
  have m0w11 : w11.cell? ⟨w8.heap.size, 0, none⟩ = some (.int .i64 600) := (cell_of_row _ _ _ _ _ _ Rm11.out).trans rfl
  have m1w11 : w11.cell? ⟨w8.heap.size, 1, none⟩ = some (.int .i64 0) := (cell_of_row _ _ _ _ _ _ Rm11.out).trans rfl
  have mfw11 : ∀ o, w11.frozen? ⟨w8.heap.size, o, none⟩ = false := fun o => frozen_of_row _ _ _ _ _ Rm11.out
  have my11 : w8.heap.size < w11.heap.size := row_lt Rm11.out
  have s0w11 : w11.cell? ⟨w9.heap.size, 0, none⟩ = some (.int .i64 600) := (cell_of_row _ _ _ _ _ _ Rs11.out).trans rfl
  have s1w11 : w11.cell? ⟨w9.heap.size, 1, none⟩ = some (.int .i64 0) := (cell_of_row _ _ _ _ _ _ Rs11.out).trans rfl
  have sfw11 : ∀ o, w11.frozen? ⟨w9.heap.size, o, none⟩ = false := fun o => frozen_of_row _ _ _ _ _ Rs11.out
  have sy11 : w9.heap.size < w11.heap.size := row_lt Rs11.out
  have t0w11 : w11.cell? ⟨w10.heap.size, 0, none⟩ = some (.int .i64 181) := (cell_of_row _ _ _ _ _ _ Rt11.out).trans rfl
  have t1w11 : w11.cell? ⟨w10.heap.size, 1, none⟩ = some (.int .i64 0) := (cell_of_row _ _ _ _ _ _ Rt11.out).trans rfl
  have tfw11 : ∀ o, w11.frozen? ⟨w10.heap.size, o, none⟩ = false := fun o => frozen_of_row _ _ _ _ _ Rt11.out
  have ty11 : w10.heap.size < w11.heap.size := row_lt Rt11.out
  simp only [f27, f28]
  go_wp2_with fail
  refine (slots_all 0 0 100 3 152 (by decide) _ (T.below hB11)).mono ?_
  rintro e w12 ⟨rfl, hb12⟩
  have hsz11 := hB11.size
  have hB12 : Below w.heap.size w w12 := hB11.trans (hb12.mono (by (try simp only [World.size_alloc, World.size_setCell]); omega))
  have Rh12 := Lib.hid (show w12.heap[w7.heap.size + 1]? = some (.cells #[.int .i64 600, .int .i64 170] 23) from row_below hb12 (Rh11.out))
  have Rm12 := Lib.hid (show w12.heap[w8.heap.size]? = some (.cells #[.int .i64 600, .int .i64 0] 23) from row_below hb12 (Rm11.out))
  have Rs12 := Lib.hid (show w12.heap[w9.heap.size]? = some (.cells #[.int .i64 600, .int .i64 0] 23) from row_below hb12 (Rs11.out))
  have Rt12 := Lib.hid (show w12.heap[w10.heap.size]? = some (.cells #[.int .i64 181, .int .i64 0] 23) from row_below hb12 (Rt11.out))
  clear hb12 hsz11 h0w11 h1w11 hfw11 hy11 Rh11 m0w11 m1w11 mfw11 my11 Rm11 s0w11 s1w11 sfw11 sy11 Rs11 t0w11 t1w11 tfw11 ty11 Rt11
  have h0w12 : w12.cell? ⟨w7.heap.size + 1, 0, none⟩ = some (.int .i64 600) := (cell_of_row _ _ _ _ _ _ Rh12.out).trans rfl
  have h1w12 : w12.cell? ⟨w7.heap.size + 1, 1, none⟩ = some (.int .i64 170) := (cell_of_row _ _ _ _ _ _ Rh12.out).trans rfl
  have hfw12 : ∀ o, w12.frozen? ⟨w7.heap.size + 1, o, none⟩ = false := fun o => frozen_of_row _ _ _ _ _ Rh12.out
  have hy12 : w7.heap.size + 1 < w12.heap.size := row_lt Rh12.out
  have m0w12 : w12.cell? ⟨w8.heap.size, 0, none⟩ = some (.int .i64 600) := (cell_of_row _ _ _ _ _ _ Rm12.out).trans rfl
  have m1w12 : w12.cell? ⟨w8.heap.size, 1, none⟩ = some (.int .i64 0) := (cell_of_row _ _ _ _ _ _ Rm12.out).trans rfl
  have mfw12 : ∀ o, w12.frozen? ⟨w8.heap.size, o, none⟩ = false := fun o => frozen_of_row _ _ _ _ _ Rm12.out
  have my12 : w8.heap.size < w12.heap.size := row_lt Rm12.out
  have s0w12 : w12.cell? ⟨w9.heap.size, 0, none⟩ = some (.int .i64 600) := (cell_of_row _ _ _ _ _ _ Rs12.out).trans rfl
  have s1w12 : w12.cell? ⟨w9.heap.size, 1, none⟩ = some (.int .i64 0) := (cell_of_row _ _ _ _ _ _ Rs12.out).trans rfl
  have sfw12 : ∀ o, w12.frozen? ⟨w9.heap.size, o, none⟩ = false := fun o => frozen_of_row _ _ _ _ _ Rs12.out
  have sy12 : w9.heap.size < w12.heap.size := row_lt Rs12.out
  have t0w12 : w12.cell? ⟨w10.heap.size, 0, none⟩ = some (.int .i64 181) := (cell_of_row _ _ _ _ _ _ Rt12.out).trans rfl
  have t1w12 : w12.cell? ⟨w10.heap.size, 1, none⟩ = some (.int .i64 0) := (cell_of_row _ _ _ _ _ _ Rt12.out).trans rfl
  have tfw12 : ∀ o, w12.frozen? ⟨w10.heap.size, o, none⟩ = false := fun o => frozen_of_row _ _ _ _ _ Rt12.out
  have ty12 : w10.heap.size < w12.heap.size := row_lt Rt12.out
  simp only [f29, f30]
  go_wp2_with fail
  refine (reserved_all 600 170 169 _).mono ?_
  rintro e w13 ⟨rfl, hb13⟩
  have hsz12 := hB12.size
  have hB13 : Below w.heap.size w w13 := hB12.trans (hb13.mono (by (try simp only [World.size_alloc, World.size_setCell]); omega))
  have Rh13 := Lib.hid (show w13.heap[w7.heap.size + 1]? = some (.cells #[.int .i64 600, .int .i64 170] 23) from row_below hb13 (Rh12.out))
  have Rm13 := Lib.hid (show w13.heap[w8.heap.size]? = some (.cells #[.int .i64 600, .int .i64 0] 23) from row_below hb13 (Rm12.out))
  have Rs13 := Lib.hid (show w13.heap[w9.heap.size]? = some (.cells #[.int .i64 600, .int .i64 0] 23) from row_below hb13 (Rs12.out))
  have Rt13 := Lib.hid (show w13.heap[w10.heap.size]? = some (.cells #[.int .i64 181, .int .i64 0] 23) from row_below hb13 (Rt12.out))
  clear hb13 hsz12 h0w12 h1w12 hfw12 hy12 Rh12 m0w12 m1w12 mfw12 my12 Rm12 s0w12 s1w12 sfw12 sy12 Rs12 t0w12 t1w12 tfw12 ty12 Rt12
  have h0w13 : w13.cell? ⟨w7.heap.size + 1, 0, none⟩ = some (.int .i64 600) := (cell_of_row _ _ _ _ _ _ Rh13.out).trans rfl
  have h1w13 : w13.cell? ⟨w7.heap.size + 1, 1, none⟩ = some (.int .i64 170) := (cell_of_row _ _ _ _ _ _ Rh13.out).trans rfl
  have hfw13 : ∀ o, w13.frozen? ⟨w7.heap.size + 1, o, none⟩ = false := fun o => frozen_of_row _ _ _ _ _ Rh13.out
  have hy13 : w7.heap.size + 1 < w13.heap.size := row_lt Rh13.out
  have m0w13 : w13.cell? ⟨w8.heap.size, 0, none⟩ = some (.int .i64 600) := (cell_of_row _ _ _ _ _ _ Rm13.out).trans rfl
  have m1w13 : w13.cell? ⟨w8.heap.size, 1, none⟩ = some (.int .i64 0) := (cell_of_row _ _ _ _ _ _ Rm13.out).trans rfl
  have mfw13 : ∀ o, w13.frozen? ⟨w8.heap.size, o, none⟩ = false := fun o => frozen_of_row _ _ _ _ _ Rm13.out
  have my13 : w8.heap.size < w13.heap.size := row_lt Rm13.out
  have s0w13 : w13.cell? ⟨w9.heap.size, 0, none⟩ = some (.int .i64 600) := (cell_of_row _ _ _ _ _ _ Rs13.out).trans rfl
  have s1w13 : w13.cell? ⟨w9.heap.size, 1, none⟩ = some (.int .i64 0) := (cell_of_row _ _ _ _ _ _ Rs13.out).trans rfl
  have sfw13 : ∀ o, w13.frozen? ⟨w9.heap.size, o, none⟩ = false := fun o => frozen_of_row _ _ _ _ _ Rs13.out
  have sy13 : w9.heap.size < w13.heap.size := row_lt Rs13.out
  have t0w13 : w13.cell? ⟨w10.heap.size, 0, none⟩ = some (.int .i64 181) := (cell_of_row _ _ _ _ _ _ Rt13.out).trans rfl
  have t1w13 : w13.cell? ⟨w10.heap.size, 1, none⟩ = some (.int .i64 0) := (cell_of_row _ _ _ _ _ _ Rt13.out).trans rfl
  have tfw13 : ∀ o, w13.frozen? ⟨w10.heap.size, o, none⟩ = false := fun o => frozen_of_row _ _ _ _ _ Rt13.out
  have ty13 : w10.heap.size < w13.heap.size := row_lt Rt13.out
  simp only [f31, f32]
  go_wp2_with fail
  refine (reserved_all 600 170 170 _).mono ?_
  rintro e w14 ⟨rfl, hb14⟩
  have hsz13 := hB13.size
  have hB14 : Below w.heap.size w w14 := hB13.trans (hb14.mono (by (try simp only [World.size_alloc, World.size_setCell]); omega))
  have Rh14 := Lib.hid (show w14.heap[w7.heap.size + 1]? = some (.cells #[.int .i64 600, .int .i64 170] 23) from row_below hb14 (Rh13.out))
  have Rm14 := Lib.hid (show w14.heap[w8.heap.size]? = some (.cells #[.int .i64 600, .int .i64 0] 23) from row_below hb14 (Rm13.out))
  have Rs14 := Lib.hid (show w14.heap[w9.heap.size]? = some (.cells #[.int .i64 600, .int .i64 0] 23) from row_below hb14 (Rs13.out))
  have Rt14 := Lib.hid (show w14.heap[w10.heap.size]? = some (.cells #[.int .i64 181, .int .i64 0] 23) from row_below hb14 (Rt13.out))
  clear hb14 hsz13 h0w13 h1w13 hfw13 hy13 Rh13 m0w13 m1w13 mfw13 my13 Rm13 s0w13 s1w13 sfw13 sy13 Rs13 t0w13 t1w13 tfw13 ty13 Rt13
  have h0w14 : w14.cell? ⟨w7.heap.size + 1, 0, none⟩ = some (.int .i64 600) := (cell_of_row _ _ _ _ _ _ Rh14.out).trans rfl
  have h1w14 : w14.cell? ⟨w7.heap.size + 1, 1, none⟩ = some (.int .i64 170) := (cell_of_row _ _ _ _ _ _ Rh14.out).trans rfl
  have hfw14 : ∀ o, w14.frozen? ⟨w7.heap.size + 1, o, none⟩ = false := fun o => frozen_of_row _ _ _ _ _ Rh14.out
  have hy14 : w7.heap.size + 1 < w14.heap.size := row_lt Rh14.out
  have m0w14 : w14.cell? ⟨w8.heap.size, 0, none⟩ = some (.int .i64 600) := (cell_of_row _ _ _ _ _ _ Rm14.out).trans rfl
  have m1w14 : w14.cell? ⟨w8.heap.size, 1, none⟩ = some (.int .i64 0) := (cell_of_row _ _ _ _ _ _ Rm14.out).trans rfl
  have mfw14 : ∀ o, w14.frozen? ⟨w8.heap.size, o, none⟩ = false := fun o => frozen_of_row _ _ _ _ _ Rm14.out
  have my14 : w8.heap.size < w14.heap.size := row_lt Rm14.out
  have s0w14 : w14.cell? ⟨w9.heap.size, 0, none⟩ = some (.int .i64 600) := (cell_of_row _ _ _ _ _ _ Rs14.out).trans rfl
  have s1w14 : w14.cell? ⟨w9.heap.size, 1, none⟩ = some (.int .i64 0) := (cell_of_row _ _ _ _ _ _ Rs14.out).trans rfl
  have sfw14 : ∀ o, w14.frozen? ⟨w9.heap.size, o, none⟩ = false := fun o => frozen_of_row _ _ _ _ _ Rs14.out
  have sy14 : w9.heap.size < w14.heap.size := row_lt Rs14.out
  have t0w14 : w14.cell? ⟨w10.heap.size, 0, none⟩ = some (.int .i64 181) := (cell_of_row _ _ _ _ _ _ Rt14.out).trans rfl
  have t1w14 : w14.cell? ⟨w10.heap.size, 1, none⟩ = some (.int .i64 0) := (cell_of_row _ _ _ _ _ _ Rt14.out).trans rfl
  have tfw14 : ∀ o, w14.frozen? ⟨w10.heap.size, o, none⟩ = false := fun o => frozen_of_row _ _ _ _ _ Rt14.out
  have ty14 : w10.heap.size < w14.heap.size := row_lt Rt14.out
  simp only [f33, f34]
  go_wp2_with fail
  refine (alive_any _ (T.below hB14) (O.below hB14)).mono ?_
  rintro e w15 ⟨rfl, hb15⟩
  have hsz14 := hB14.size
  have hB15 : Below w.heap.size w w15 := hB14.trans (hb15.mono (by (try simp only [World.size_alloc, World.size_setCell]); omega))
  have Rh15 := Lib.hid (show w15.heap[w7.heap.size + 1]? = some (.cells #[.int .i64 600, .int .i64 170] 23) from row_below hb15 (Rh14.out))
  have Rm15 := Lib.hid (show w15.heap[w8.heap.size]? = some (.cells #[.int .i64 600, .int .i64 0] 23) from row_below hb15 (Rm14.out))
  have Rs15 := Lib.hid (show w15.heap[w9.heap.size]? = some (.cells #[.int .i64 600, .int .i64 0] 23) from row_below hb15 (Rs14.out))
  have Rt15 := Lib.hid (show w15.heap[w10.heap.size]? = some (.cells #[.int .i64 181, .int .i64 0] 23) from row_below hb15 (Rt14.out))
  clear hb15 hsz14 h0w14 h1w14 hfw14 hy14 Rh14 m0w14 m1w14 mfw14 my14 Rm14 s0w14 s1w14 sfw14 sy14 Rs14 t0w14 t1w14 tfw14 ty14 Rt14
  have h0w15 : w15.cell? ⟨w7.heap.size + 1, 0, none⟩ = some (.int .i64 600) := (cell_of_row _ _ _ _ _ _ Rh15.out).trans rfl
  have h1w15 : w15.cell? ⟨w7.heap.size + 1, 1, none⟩ = some (.int .i64 170) := (cell_of_row _ _ _ _ _ _ Rh15.out).trans rfl
  have hfw15 : ∀ o, w15.frozen? ⟨w7.heap.size + 1, o, none⟩ = false := fun o => frozen_of_row _ _ _ _ _ Rh15.out
  have hy15 : w7.heap.size + 1 < w15.heap.size := row_lt Rh15.out
  have m0w15 : w15.cell? ⟨w8.heap.size, 0, none⟩ = some (.int .i64 600) := (cell_of_row _ _ _ _ _ _ Rm15.out).trans rfl
  have m1w15 : w15.cell? ⟨w8.heap.size, 1, none⟩ = some (.int .i64 0) := (cell_of_row _ _ _ _ _ _ Rm15.out).trans rfl
  have mfw15 : ∀ o, w15.frozen? ⟨w8.heap.size, o, none⟩ = false := fun o => frozen_of_row _ _ _ _ _ Rm15.out
  have my15 : w8.heap.size < w15.heap.size := row_lt Rm15.out
  have s0w15 : w15.cell? ⟨w9.heap.size, 0, none⟩ = some (.int .i64 600) := (cell_of_row _ _ _ _ _ _ Rs15.out).trans rfl
  have s1w15 : w15.cell? ⟨w9.heap.size, 1, none⟩ = some (.int .i64 0) := (cell_of_row _ _ _ _ _ _ Rs15.out).trans rfl
  have sfw15 : ∀ o, w15.frozen? ⟨w9.heap.size, o, none⟩ = false := fun o => frozen_of_row _ _ _ _ _ Rs15.out
  have sy15 : w9.heap.size < w15.heap.size := row_lt Rs15.out
  have t0w15 : w15.cell? ⟨w10.heap.size, 0, none⟩ = some (.int .i64 181) := (cell_of_row _ _ _ _ _ _ Rt15.out).trans rfl
  have t1w15 : w15.cell? ⟨w10.heap.size, 1, none⟩ = some (.int .i64 0) := (cell_of_row _ _ _ _ _ _ Rt15.out).trans rfl
  have tfw15 : ∀ o, w15.frozen? ⟨w10.heap.size, o, none⟩ = false := fun o => frozen_of_row _ _ _ _ _ Rt15.out
  have ty15 : w10.heap.size < w15.heap.size := row_lt Rt15.out
  go_wp2
  go_ret
  exact ⟨rfl, hB15⟩
end Go.Proofs.YtdmaekiejdahoaaDoor.deferralNames
