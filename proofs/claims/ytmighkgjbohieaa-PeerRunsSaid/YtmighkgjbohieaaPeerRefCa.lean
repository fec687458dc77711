/-
  The contract of the reference's Check: it returns what peer.Check returns.
-/
import Derived.Test.YtmighkgjbohieaaPeerRef
set_option linter.unusedVariables false
set_option linter.unusedSimpArgs false
namespace Go.Proofs.Ytmighkgjbohieaa
open Go.ChangeShapes Go.WideShapes Go.ChangeAt Go.RowKit Go.Great

set_option maxHeartbeats 2000000 in
theorem rc_0_same (k : Lk) (hB : k.By) (hs : k.st = 0) (hsame : k.same = true) (w : World) : Calls Try.prog 32 #[.agg k.cells] w fun e w' => e = .returned (.int .i64 8) ∧ Below w.heap.size w w' := by
  have KN := Lib.hid (fun W => show Calls Try.prog 51 #[.agg k.cells] W (fun e w' => e = .returned (.bool false) ∧ Below W.heap.size W w') from by have h := known_any k W; rw [show knownB k = false by simp only [knownB, hs]; rfl] at h; exact h)
  have KW := Lib.hid (fun W => show Calls Try.prog 46 #[.agg k.cells] W (fun e w' => e = .returned (.bool false) ∧ Below W.heap.size W w') from by have h := waits_any k W; rw [show waitsB k = false by simp only [waitsB, hs]; rfl] at h; exact h)
  have E := eql_addr k.o0 k.o1 k.o2 k.o3 k.o4 k.o5 k.p0 k.p1 k.p2 k.p3 k.p4 k.p5 hB.o0 hB.o1 hB.o2 hB.o3 hB.o4 hB.o5 hB.p0 hB.p1 hB.p2 hB.p3 hB.p4 hB.p5
  rw [show addrB k.o0 k.o1 k.o2 k.o3 k.o4 k.o5 k.p0 k.p1 k.p2 k.p3 k.p4 k.p5 = true from hsame] at E
  clear hsame hB
  have R0 := Lib.hid (fr_rows1 w (.cells k.cells 27))
  have a0 : (w.alloc (.cells k.cells 27)).cell? ⟨w.heap.size, 0, none⟩ = some (.int .u8 k.o0) := (cell_of_row _ _ _ _ _ _ R0.out).trans rfl
  have a1 : (w.alloc (.cells k.cells 27)).cell? ⟨w.heap.size, 1, none⟩ = some (.int .u8 k.o1) := (cell_of_row _ _ _ _ _ _ R0.out).trans rfl
  have a2 : (w.alloc (.cells k.cells 27)).cell? ⟨w.heap.size, 2, none⟩ = some (.int .u8 k.o2) := (cell_of_row _ _ _ _ _ _ R0.out).trans rfl
  have a3 : (w.alloc (.cells k.cells 27)).cell? ⟨w.heap.size, 3, none⟩ = some (.int .u8 k.o3) := (cell_of_row _ _ _ _ _ _ R0.out).trans rfl
  have a4 : (w.alloc (.cells k.cells 27)).cell? ⟨w.heap.size, 4, none⟩ = some (.int .u8 k.o4) := (cell_of_row _ _ _ _ _ _ R0.out).trans rfl
  have a5 : (w.alloc (.cells k.cells 27)).cell? ⟨w.heap.size, 5, none⟩ = some (.int .u8 k.o5) := (cell_of_row _ _ _ _ _ _ R0.out).trans rfl
  have a6 : (w.alloc (.cells k.cells 27)).cell? ⟨w.heap.size, 6, none⟩ = some (.int .u8 k.p0) := (cell_of_row _ _ _ _ _ _ R0.out).trans rfl
  have a7 : (w.alloc (.cells k.cells 27)).cell? ⟨w.heap.size, 7, none⟩ = some (.int .u8 k.p1) := (cell_of_row _ _ _ _ _ _ R0.out).trans rfl
  have a8 : (w.alloc (.cells k.cells 27)).cell? ⟨w.heap.size, 8, none⟩ = some (.int .u8 k.p2) := (cell_of_row _ _ _ _ _ _ R0.out).trans rfl
  have a9 : (w.alloc (.cells k.cells 27)).cell? ⟨w.heap.size, 9, none⟩ = some (.int .u8 k.p3) := (cell_of_row _ _ _ _ _ _ R0.out).trans rfl
  have a10 : (w.alloc (.cells k.cells 27)).cell? ⟨w.heap.size, 10, none⟩ = some (.int .u8 k.p4) := (cell_of_row _ _ _ _ _ _ R0.out).trans rfl
  have a11 : (w.alloc (.cells k.cells 27)).cell? ⟨w.heap.size, 11, none⟩ = some (.int .u8 k.p5) := (cell_of_row _ _ _ _ _ _ R0.out).trans rfl
  have s12 : (w.alloc (.cells k.cells 27)).cell? ⟨w.heap.size, 12, none⟩ = some (.int .u8 k.st) := (cell_of_row _ _ _ _ _ _ R0.out).trans rfl
  have s13 : (w.alloc (.cells k.cells 27)).cell? ⟨w.heap.size, 13, none⟩ = some (.int .i64 k.id) := (cell_of_row _ _ _ _ _ _ R0.out).trans rfl
  have s14 : (w.alloc (.cells k.cells 27)).cell? ⟨w.heap.size, 14, none⟩ = some (.int .i64 k.ot) := (cell_of_row _ _ _ _ _ _ R0.out).trans rfl
  have s15 : (w.alloc (.cells k.cells 27)).cell? ⟨w.heap.size, 15, none⟩ = some (.int .i64 k.tr) := (cell_of_row _ _ _ _ _ _ R0.out).trans rfl
  have s16 : (w.alloc (.cells k.cells 27)).cell? ⟨w.heap.size, 16, none⟩ = some (.int .i64 k.du) := (cell_of_row _ _ _ _ _ _ R0.out).trans rfl
  have HB := Lib.hid (show Below w.heap.size w (w.alloc (.cells k.cells 27)) from below_more (Below.refl _ _) _)
  have HI := Lib.hid (link_info2 k)
  rw [hs] at s12
  clear hs
  go_enter Try.func32, Try.ntmps32
  go_wp2_with (first
    | (with_reducible refine wpList_load_row rfl 27 (.tmp 1) rfl w.heap.size rfl 27 k.cells (0, 0) _ R0.out Try.underlying27 rfl HI.out ?_)
    | ((with_reducible refine wpList_load_subG ?_ 27 (.tmp 1) rfl w.heap.size 0 rfl k.cells _ (range_row R0.out) Try.underlying27 rfl HI.out ?_); (as_aux_lemma => kernel_rfl))
    | (go_at_call 51; (with_reducible refine (KN.out _).mono ?_); rintro e w' ⟨rfl, hb⟩; replace R0 := Lib.hid (row_below hb R0.out); replace HB := Lib.hid (below_step HB.out hb); replace s12 := below_kept hb s12; replace s14 := below_kept hb s14; replace s15 := below_kept hb s15; replace s16 := below_kept hb s16; clear hb)
    | (go_at_call 46; (with_reducible refine (KW.out _).mono ?_); rintro e w' ⟨rfl, hb⟩; replace R0 := Lib.hid (row_below hb R0.out); replace HB := Lib.hid (below_step HB.out hb); replace s12 := below_kept hb s12; replace s14 := below_kept hb s14; replace s15 := below_kept hb s15; replace s16 := below_kept hb s16; clear hb))
  go_ret
  exact ⟨rfl, HB.out⟩
set_option maxHeartbeats 2000000 in
theorem rc_0_0 (k : Lk) (hB : k.By) (hs : k.st = 0) (hsame : k.same = false) (g0 : k.id < 1) (w : World) : Calls Try.prog 32 #[.agg k.cells] w fun e w' => e = .returned (.int .i64 8) ∧ Below w.heap.size w w' := by
  have KN := Lib.hid (fun W => show Calls Try.prog 51 #[.agg k.cells] W (fun e w' => e = .returned (.bool false) ∧ Below W.heap.size W w') from by have h := known_any k W; rw [show knownB k = false by simp only [knownB, hs]; rfl] at h; exact h)
  have KW := Lib.hid (fun W => show Calls Try.prog 46 #[.agg k.cells] W (fun e w' => e = .returned (.bool false) ∧ Below W.heap.size W w') from by have h := waits_any k W; rw [show waitsB k = false by simp only [waitsB, hs]; rfl] at h; exact h)
  have E := eql_addr k.o0 k.o1 k.o2 k.o3 k.o4 k.o5 k.p0 k.p1 k.p2 k.p3 k.p4 k.p5 hB.o0 hB.o1 hB.o2 hB.o3 hB.o4 hB.o5 hB.p0 hB.p1 hB.p2 hB.p3 hB.p4 hB.p5
  rw [show addrB k.o0 k.o1 k.o2 k.o3 k.o4 k.o5 k.p0 k.p1 k.p2 k.p3 k.p4 k.p5 = false from hsame] at E
  clear hsame hB
  have R0 := Lib.hid (fr_rows1 w (.cells k.cells 27))
  have a0 : (w.alloc (.cells k.cells 27)).cell? ⟨w.heap.size, 0, none⟩ = some (.int .u8 k.o0) := (cell_of_row _ _ _ _ _ _ R0.out).trans rfl
  have a1 : (w.alloc (.cells k.cells 27)).cell? ⟨w.heap.size, 1, none⟩ = some (.int .u8 k.o1) := (cell_of_row _ _ _ _ _ _ R0.out).trans rfl
  have a2 : (w.alloc (.cells k.cells 27)).cell? ⟨w.heap.size, 2, none⟩ = some (.int .u8 k.o2) := (cell_of_row _ _ _ _ _ _ R0.out).trans rfl
  have a3 : (w.alloc (.cells k.cells 27)).cell? ⟨w.heap.size, 3, none⟩ = some (.int .u8 k.o3) := (cell_of_row _ _ _ _ _ _ R0.out).trans rfl
  have a4 : (w.alloc (.cells k.cells 27)).cell? ⟨w.heap.size, 4, none⟩ = some (.int .u8 k.o4) := (cell_of_row _ _ _ _ _ _ R0.out).trans rfl
  have a5 : (w.alloc (.cells k.cells 27)).cell? ⟨w.heap.size, 5, none⟩ = some (.int .u8 k.o5) := (cell_of_row _ _ _ _ _ _ R0.out).trans rfl
  have a6 : (w.alloc (.cells k.cells 27)).cell? ⟨w.heap.size, 6, none⟩ = some (.int .u8 k.p0) := (cell_of_row _ _ _ _ _ _ R0.out).trans rfl
  have a7 : (w.alloc (.cells k.cells 27)).cell? ⟨w.heap.size, 7, none⟩ = some (.int .u8 k.p1) := (cell_of_row _ _ _ _ _ _ R0.out).trans rfl
  have a8 : (w.alloc (.cells k.cells 27)).cell? ⟨w.heap.size, 8, none⟩ = some (.int .u8 k.p2) := (cell_of_row _ _ _ _ _ _ R0.out).trans rfl
  have a9 : (w.alloc (.cells k.cells 27)).cell? ⟨w.heap.size, 9, none⟩ = some (.int .u8 k.p3) := (cell_of_row _ _ _ _ _ _ R0.out).trans rfl
  have a10 : (w.alloc (.cells k.cells 27)).cell? ⟨w.heap.size, 10, none⟩ = some (.int .u8 k.p4) := (cell_of_row _ _ _ _ _ _ R0.out).trans rfl
  have a11 : (w.alloc (.cells k.cells 27)).cell? ⟨w.heap.size, 11, none⟩ = some (.int .u8 k.p5) := (cell_of_row _ _ _ _ _ _ R0.out).trans rfl
  have s12 : (w.alloc (.cells k.cells 27)).cell? ⟨w.heap.size, 12, none⟩ = some (.int .u8 k.st) := (cell_of_row _ _ _ _ _ _ R0.out).trans rfl
  have s13 : (w.alloc (.cells k.cells 27)).cell? ⟨w.heap.size, 13, none⟩ = some (.int .i64 k.id) := (cell_of_row _ _ _ _ _ _ R0.out).trans rfl
  have s14 : (w.alloc (.cells k.cells 27)).cell? ⟨w.heap.size, 14, none⟩ = some (.int .i64 k.ot) := (cell_of_row _ _ _ _ _ _ R0.out).trans rfl
  have s15 : (w.alloc (.cells k.cells 27)).cell? ⟨w.heap.size, 15, none⟩ = some (.int .i64 k.tr) := (cell_of_row _ _ _ _ _ _ R0.out).trans rfl
  have s16 : (w.alloc (.cells k.cells 27)).cell? ⟨w.heap.size, 16, none⟩ = some (.int .i64 k.du) := (cell_of_row _ _ _ _ _ _ R0.out).trans rfl
  have HB := Lib.hid (show Below w.heap.size w (w.alloc (.cells k.cells 27)) from below_more (Below.refl _ _) _)
  have HI := Lib.hid (link_info2 k)
  have dg0 : decide (k.id < 1) = true := by simp; omega
  rw [hs] at s12
  clear hs
  go_enter Try.func32, Try.ntmps32
  go_wp2_with (first
    | (with_reducible refine wpList_load_row rfl 27 (.tmp 1) rfl w.heap.size rfl 27 k.cells (0, 0) _ R0.out Try.underlying27 rfl HI.out ?_)
    | ((with_reducible refine wpList_load_subG ?_ 27 (.tmp 1) rfl w.heap.size 0 rfl k.cells _ (range_row R0.out) Try.underlying27 rfl HI.out ?_); (as_aux_lemma => kernel_rfl))
    | (go_at_call 51; (with_reducible refine (KN.out _).mono ?_); rintro e w' ⟨rfl, hb⟩; replace R0 := Lib.hid (row_below hb R0.out); replace HB := Lib.hid (below_step HB.out hb); replace s12 := below_kept hb s12; replace s14 := below_kept hb s14; replace s15 := below_kept hb s15; replace s16 := below_kept hb s16; clear hb)
    | (go_at_call 46; (with_reducible refine (KW.out _).mono ?_); rintro e w' ⟨rfl, hb⟩; replace R0 := Lib.hid (row_below hb R0.out); replace HB := Lib.hid (below_step HB.out hb); replace s12 := below_kept hb s12; replace s14 := below_kept hb s14; replace s15 := below_kept hb s15; replace s16 := below_kept hb s16; clear hb))
  go_ret
  exact ⟨rfl, HB.out⟩
set_option maxHeartbeats 2000000 in
theorem rc_0_1 (k : Lk) (hB : k.By) (hs : k.st = 0) (hsame : k.same = false) (g0 : 1 ≤ k.id) (g1 : 65535 < k.id) (w : World) : Calls Try.prog 32 #[.agg k.cells] w fun e w' => e = .returned (.int .i64 8) ∧ Below w.heap.size w w' := by
  have KN := Lib.hid (fun W => show Calls Try.prog 51 #[.agg k.cells] W (fun e w' => e = .returned (.bool false) ∧ Below W.heap.size W w') from by have h := known_any k W; rw [show knownB k = false by simp only [knownB, hs]; rfl] at h; exact h)
  have KW := Lib.hid (fun W => show Calls Try.prog 46 #[.agg k.cells] W (fun e w' => e = .returned (.bool false) ∧ Below W.heap.size W w') from by have h := waits_any k W; rw [show waitsB k = false by simp only [waitsB, hs]; rfl] at h; exact h)
  have E := eql_addr k.o0 k.o1 k.o2 k.o3 k.o4 k.o5 k.p0 k.p1 k.p2 k.p3 k.p4 k.p5 hB.o0 hB.o1 hB.o2 hB.o3 hB.o4 hB.o5 hB.p0 hB.p1 hB.p2 hB.p3 hB.p4 hB.p5
  rw [show addrB k.o0 k.o1 k.o2 k.o3 k.o4 k.o5 k.p0 k.p1 k.p2 k.p3 k.p4 k.p5 = false from hsame] at E
  clear hsame hB
  have R0 := Lib.hid (fr_rows1 w (.cells k.cells 27))
  have a0 : (w.alloc (.cells k.cells 27)).cell? ⟨w.heap.size, 0, none⟩ = some (.int .u8 k.o0) := (cell_of_row _ _ _ _ _ _ R0.out).trans rfl
  have a1 : (w.alloc (.cells k.cells 27)).cell? ⟨w.heap.size, 1, none⟩ = some (.int .u8 k.o1) := (cell_of_row _ _ _ _ _ _ R0.out).trans rfl
  have a2 : (w.alloc (.cells k.cells 27)).cell? ⟨w.heap.size, 2, none⟩ = some (.int .u8 k.o2) := (cell_of_row _ _ _ _ _ _ R0.out).trans rfl
  have a3 : (w.alloc (.cells k.cells 27)).cell? ⟨w.heap.size, 3, none⟩ = some (.int .u8 k.o3) := (cell_of_row _ _ _ _ _ _ R0.out).trans rfl
  have a4 : (w.alloc (.cells k.cells 27)).cell? ⟨w.heap.size, 4, none⟩ = some (.int .u8 k.o4) := (cell_of_row _ _ _ _ _ _ R0.out).trans rfl
  have a5 : (w.alloc (.cells k.cells 27)).cell? ⟨w.heap.size, 5, none⟩ = some (.int .u8 k.o5) := (cell_of_row _ _ _ _ _ _ R0.out).trans rfl
  have a6 : (w.alloc (.cells k.cells 27)).cell? ⟨w.heap.size, 6, none⟩ = some (.int .u8 k.p0) := (cell_of_row _ _ _ _ _ _ R0.out).trans rfl
  have a7 : (w.alloc (.cells k.cells 27)).cell? ⟨w.heap.size, 7, none⟩ = some (.int .u8 k.p1) := (cell_of_row _ _ _ _ _ _ R0.out).trans rfl
  have a8 : (w.alloc (.cells k.cells 27)).cell? ⟨w.heap.size, 8, none⟩ = some (.int .u8 k.p2) := (cell_of_row _ _ _ _ _ _ R0.out).trans rfl
  have a9 : (w.alloc (.cells k.cells 27)).cell? ⟨w.heap.size, 9, none⟩ = some (.int .u8 k.p3) := (cell_of_row _ _ _ _ _ _ R0.out).trans rfl
  have a10 : (w.alloc (.cells k.cells 27)).cell? ⟨w.heap.size, 10, none⟩ = some (.int .u8 k.p4) := (cell_of_row _ _ _ _ _ _ R0.out).trans rfl
  have a11 : (w.alloc (.cells k.cells 27)).cell? ⟨w.heap.size, 11, none⟩ = some (.int .u8 k.p5) := (cell_of_row _ _ _ _ _ _ R0.out).trans rfl
  have s12 : (w.alloc (.cells k.cells 27)).cell? ⟨w.heap.size, 12, none⟩ = some (.int .u8 k.st) := (cell_of_row _ _ _ _ _ _ R0.out).trans rfl
  have s13 : (w.alloc (.cells k.cells 27)).cell? ⟨w.heap.size, 13, none⟩ = some (.int .i64 k.id) := (cell_of_row _ _ _ _ _ _ R0.out).trans rfl
  have s14 : (w.alloc (.cells k.cells 27)).cell? ⟨w.heap.size, 14, none⟩ = some (.int .i64 k.ot) := (cell_of_row _ _ _ _ _ _ R0.out).trans rfl
  have s15 : (w.alloc (.cells k.cells 27)).cell? ⟨w.heap.size, 15, none⟩ = some (.int .i64 k.tr) := (cell_of_row _ _ _ _ _ _ R0.out).trans rfl
  have s16 : (w.alloc (.cells k.cells 27)).cell? ⟨w.heap.size, 16, none⟩ = some (.int .i64 k.du) := (cell_of_row _ _ _ _ _ _ R0.out).trans rfl
  have HB := Lib.hid (show Below w.heap.size w (w.alloc (.cells k.cells 27)) from below_more (Below.refl _ _) _)
  have HI := Lib.hid (link_info2 k)
  have dg0 : decide (k.id < 1) = false := by simp; omega
  have dg1 : decide (65535 < k.id) = true := by simp; omega
  rw [hs] at s12
  clear hs
  go_enter Try.func32, Try.ntmps32
  go_wp2_with (first
    | (with_reducible refine wpList_load_row rfl 27 (.tmp 1) rfl w.heap.size rfl 27 k.cells (0, 0) _ R0.out Try.underlying27 rfl HI.out ?_)
    | ((with_reducible refine wpList_load_subG ?_ 27 (.tmp 1) rfl w.heap.size 0 rfl k.cells _ (range_row R0.out) Try.underlying27 rfl HI.out ?_); (as_aux_lemma => kernel_rfl))
    | (go_at_call 51; (with_reducible refine (KN.out _).mono ?_); rintro e w' ⟨rfl, hb⟩; replace R0 := Lib.hid (row_below hb R0.out); replace HB := Lib.hid (below_step HB.out hb); replace s12 := below_kept hb s12; replace s14 := below_kept hb s14; replace s15 := below_kept hb s15; replace s16 := below_kept hb s16; clear hb)
    | (go_at_call 46; (with_reducible refine (KW.out _).mono ?_); rintro e w' ⟨rfl, hb⟩; replace R0 := Lib.hid (row_below hb R0.out); replace HB := Lib.hid (below_step HB.out hb); replace s12 := below_kept hb s12; replace s14 := below_kept hb s14; replace s15 := below_kept hb s15; replace s16 := below_kept hb s16; clear hb))
  go_ret
  exact ⟨rfl, HB.out⟩
set_option maxHeartbeats 2000000 in
theorem rc_0_2 (k : Lk) (hB : k.By) (hs : k.st = 0) (hsame : k.same = false) (g0 : 1 ≤ k.id) (g1 : k.id ≤ 65535) (g2 : k.ot < 0) (w : World) : Calls Try.prog 32 #[.agg k.cells] w fun e w' => e = .returned (.int .i64 8) ∧ Below w.heap.size w w' := by
  have KN := Lib.hid (fun W => show Calls Try.prog 51 #[.agg k.cells] W (fun e w' => e = .returned (.bool false) ∧ Below W.heap.size W w') from by have h := known_any k W; rw [show knownB k = false by simp only [knownB, hs]; rfl] at h; exact h)
  have KW := Lib.hid (fun W => show Calls Try.prog 46 #[.agg k.cells] W (fun e w' => e = .returned (.bool false) ∧ Below W.heap.size W w') from by have h := waits_any k W; rw [show waitsB k = false by simp only [waitsB, hs]; rfl] at h; exact h)
  have E := eql_addr k.o0 k.o1 k.o2 k.o3 k.o4 k.o5 k.p0 k.p1 k.p2 k.p3 k.p4 k.p5 hB.o0 hB.o1 hB.o2 hB.o3 hB.o4 hB.o5 hB.p0 hB.p1 hB.p2 hB.p3 hB.p4 hB.p5
  rw [show addrB k.o0 k.o1 k.o2 k.o3 k.o4 k.o5 k.p0 k.p1 k.p2 k.p3 k.p4 k.p5 = false from hsame] at E
  clear hsame hB
  have R0 := Lib.hid (fr_rows1 w (.cells k.cells 27))
  have a0 : (w.alloc (.cells k.cells 27)).cell? ⟨w.heap.size, 0, none⟩ = some (.int .u8 k.o0) := (cell_of_row _ _ _ _ _ _ R0.out).trans rfl
  have a1 : (w.alloc (.cells k.cells 27)).cell? ⟨w.heap.size, 1, none⟩ = some (.int .u8 k.o1) := (cell_of_row _ _ _ _ _ _ R0.out).trans rfl
  have a2 : (w.alloc (.cells k.cells 27)).cell? ⟨w.heap.size, 2, none⟩ = some (.int .u8 k.o2) := (cell_of_row _ _ _ _ _ _ R0.out).trans rfl
  have a3 : (w.alloc (.cells k.cells 27)).cell? ⟨w.heap.size, 3, none⟩ = some (.int .u8 k.o3) := (cell_of_row _ _ _ _ _ _ R0.out).trans rfl
  have a4 : (w.alloc (.cells k.cells 27)).cell? ⟨w.heap.size, 4, none⟩ = some (.int .u8 k.o4) := (cell_of_row _ _ _ _ _ _ R0.out).trans rfl
  have a5 : (w.alloc (.cells k.cells 27)).cell? ⟨w.heap.size, 5, none⟩ = some (.int .u8 k.o5) := (cell_of_row _ _ _ _ _ _ R0.out).trans rfl
  have a6 : (w.alloc (.cells k.cells 27)).cell? ⟨w.heap.size, 6, none⟩ = some (.int .u8 k.p0) := (cell_of_row _ _ _ _ _ _ R0.out).trans rfl
  have a7 : (w.alloc (.cells k.cells 27)).cell? ⟨w.heap.size, 7, none⟩ = some (.int .u8 k.p1) := (cell_of_row _ _ _ _ _ _ R0.out).trans rfl
  have a8 : (w.alloc (.cells k.cells 27)).cell? ⟨w.heap.size, 8, none⟩ = some (.int .u8 k.p2) := (cell_of_row _ _ _ _ _ _ R0.out).trans rfl
  have a9 : (w.alloc (.cells k.cells 27)).cell? ⟨w.heap.size, 9, none⟩ = some (.int .u8 k.p3) := (cell_of_row _ _ _ _ _ _ R0.out).trans rfl
  have a10 : (w.alloc (.cells k.cells 27)).cell? ⟨w.heap.size, 10, none⟩ = some (.int .u8 k.p4) := (cell_of_row _ _ _ _ _ _ R0.out).trans rfl
  have a11 : (w.alloc (.cells k.cells 27)).cell? ⟨w.heap.size, 11, none⟩ = some (.int .u8 k.p5) := (cell_of_row _ _ _ _ _ _ R0.out).trans rfl
  have s12 : (w.alloc (.cells k.cells 27)).cell? ⟨w.heap.size, 12, none⟩ = some (.int .u8 k.st) := (cell_of_row _ _ _ _ _ _ R0.out).trans rfl
  have s13 : (w.alloc (.cells k.cells 27)).cell? ⟨w.heap.size, 13, none⟩ = some (.int .i64 k.id) := (cell_of_row _ _ _ _ _ _ R0.out).trans rfl
  have s14 : (w.alloc (.cells k.cells 27)).cell? ⟨w.heap.size, 14, none⟩ = some (.int .i64 k.ot) := (cell_of_row _ _ _ _ _ _ R0.out).trans rfl
  have s15 : (w.alloc (.cells k.cells 27)).cell? ⟨w.heap.size, 15, none⟩ = some (.int .i64 k.tr) := (cell_of_row _ _ _ _ _ _ R0.out).trans rfl
  have s16 : (w.alloc (.cells k.cells 27)).cell? ⟨w.heap.size, 16, none⟩ = some (.int .i64 k.du) := (cell_of_row _ _ _ _ _ _ R0.out).trans rfl
  have HB := Lib.hid (show Below w.heap.size w (w.alloc (.cells k.cells 27)) from below_more (Below.refl _ _) _)
  have HI := Lib.hid (link_info2 k)
  have dg0 : decide (k.id < 1) = false := by simp; omega
  have dg1 : decide (65535 < k.id) = false := by simp; omega
  have dg2 : decide (k.ot < 0) = true := by simp; omega
  rw [hs] at s12
  clear hs
  go_enter Try.func32, Try.ntmps32
  go_wp2_with (first
    | (with_reducible refine wpList_load_row rfl 27 (.tmp 1) rfl w.heap.size rfl 27 k.cells (0, 0) _ R0.out Try.underlying27 rfl HI.out ?_)
    | ((with_reducible refine wpList_load_subG ?_ 27 (.tmp 1) rfl w.heap.size 0 rfl k.cells _ (range_row R0.out) Try.underlying27 rfl HI.out ?_); (as_aux_lemma => kernel_rfl))
    | (go_at_call 51; (with_reducible refine (KN.out _).mono ?_); rintro e w' ⟨rfl, hb⟩; replace R0 := Lib.hid (row_below hb R0.out); replace HB := Lib.hid (below_step HB.out hb); replace s12 := below_kept hb s12; replace s14 := below_kept hb s14; replace s15 := below_kept hb s15; replace s16 := below_kept hb s16; clear hb)
    | (go_at_call 46; (with_reducible refine (KW.out _).mono ?_); rintro e w' ⟨rfl, hb⟩; replace R0 := Lib.hid (row_below hb R0.out); replace HB := Lib.hid (below_step HB.out hb); replace s12 := below_kept hb s12; replace s14 := below_kept hb s14; replace s15 := below_kept hb s15; replace s16 := below_kept hb s16; clear hb))
  go_ret
  exact ⟨rfl, HB.out⟩
set_option maxHeartbeats 2000000 in
theorem rc_0_3 (k : Lk) (hB : k.By) (hs : k.st = 0) (hsame : k.same = false) (g0 : 1 ≤ k.id) (g1 : k.id ≤ 65535) (g2 : 0 ≤ k.ot) (g3 : 65535 < k.ot) (w : World) : Calls Try.prog 32 #[.agg k.cells] w fun e w' => e = .returned (.int .i64 8) ∧ Below w.heap.size w w' := by
  have KN := Lib.hid (fun W => show Calls Try.prog 51 #[.agg k.cells] W (fun e w' => e = .returned (.bool false) ∧ Below W.heap.size W w') from by have h := known_any k W; rw [show knownB k = false by simp only [knownB, hs]; rfl] at h; exact h)
  have KW := Lib.hid (fun W => show Calls Try.prog 46 #[.agg k.cells] W (fun e w' => e = .returned (.bool false) ∧ Below W.heap.size W w') from by have h := waits_any k W; rw [show waitsB k = false by simp only [waitsB, hs]; rfl] at h; exact h)
  have E := eql_addr k.o0 k.o1 k.o2 k.o3 k.o4 k.o5 k.p0 k.p1 k.p2 k.p3 k.p4 k.p5 hB.o0 hB.o1 hB.o2 hB.o3 hB.o4 hB.o5 hB.p0 hB.p1 hB.p2 hB.p3 hB.p4 hB.p5
  rw [show addrB k.o0 k.o1 k.o2 k.o3 k.o4 k.o5 k.p0 k.p1 k.p2 k.p3 k.p4 k.p5 = false from hsame] at E
  clear hsame hB
  have R0 := Lib.hid (fr_rows1 w (.cells k.cells 27))
  have a0 : (w.alloc (.cells k.cells 27)).cell? ⟨w.heap.size, 0, none⟩ = some (.int .u8 k.o0) := (cell_of_row _ _ _ _ _ _ R0.out).trans rfl
  have a1 : (w.alloc (.cells k.cells 27)).cell? ⟨w.heap.size, 1, none⟩ = some (.int .u8 k.o1) := (cell_of_row _ _ _ _ _ _ R0.out).trans rfl
  have a2 : (w.alloc (.cells k.cells 27)).cell? ⟨w.heap.size, 2, none⟩ = some (.int .u8 k.o2) := (cell_of_row _ _ _ _ _ _ R0.out).trans rfl
  have a3 : (w.alloc (.cells k.cells 27)).cell? ⟨w.heap.size, 3, none⟩ = some (.int .u8 k.o3) := (cell_of_row _ _ _ _ _ _ R0.out).trans rfl
  have a4 : (w.alloc (.cells k.cells 27)).cell? ⟨w.heap.size, 4, none⟩ = some (.int .u8 k.o4) := (cell_of_row _ _ _ _ _ _ R0.out).trans rfl
  have a5 : (w.alloc (.cells k.cells 27)).cell? ⟨w.heap.size, 5, none⟩ = some (.int .u8 k.o5) := (cell_of_row _ _ _ _ _ _ R0.out).trans rfl
  have a6 : (w.alloc (.cells k.cells 27)).cell? ⟨w.heap.size, 6, none⟩ = some (.int .u8 k.p0) := (cell_of_row _ _ _ _ _ _ R0.out).trans rfl
  have a7 : (w.alloc (.cells k.cells 27)).cell? ⟨w.heap.size, 7, none⟩ = some (.int .u8 k.p1) := (cell_of_row _ _ _ _ _ _ R0.out).trans rfl
  have a8 : (w.alloc (.cells k.cells 27)).cell? ⟨w.heap.size, 8, none⟩ = some (.int .u8 k.p2) := (cell_of_row _ _ _ _ _ _ R0.out).trans rfl
  have a9 : (w.alloc (.cells k.cells 27)).cell? ⟨w.heap.size, 9, none⟩ = some (.int .u8 k.p3) := (cell_of_row _ _ _ _ _ _ R0.out).trans rfl
  have a10 : (w.alloc (.cells k.cells 27)).cell? ⟨w.heap.size, 10, none⟩ = some (.int .u8 k.p4) := (cell_of_row _ _ _ _ _ _ R0.out).trans rfl
  have a11 : (w.alloc (.cells k.cells 27)).cell? ⟨w.heap.size, 11, none⟩ = some (.int .u8 k.p5) := (cell_of_row _ _ _ _ _ _ R0.out).trans rfl
  have s12 : (w.alloc (.cells k.cells 27)).cell? ⟨w.heap.size, 12, none⟩ = some (.int .u8 k.st) := (cell_of_row _ _ _ _ _ _ R0.out).trans rfl
  have s13 : (w.alloc (.cells k.cells 27)).cell? ⟨w.heap.size, 13, none⟩ = some (.int .i64 k.id) := (cell_of_row _ _ _ _ _ _ R0.out).trans rfl
  have s14 : (w.alloc (.cells k.cells 27)).cell? ⟨w.heap.size, 14, none⟩ = some (.int .i64 k.ot) := (cell_of_row _ _ _ _ _ _ R0.out).trans rfl
  have s15 : (w.alloc (.cells k.cells 27)).cell? ⟨w.heap.size, 15, none⟩ = some (.int .i64 k.tr) := (cell_of_row _ _ _ _ _ _ R0.out).trans rfl
  have s16 : (w.alloc (.cells k.cells 27)).cell? ⟨w.heap.size, 16, none⟩ = some (.int .i64 k.du) := (cell_of_row _ _ _ _ _ _ R0.out).trans rfl
  have HB := Lib.hid (show Below w.heap.size w (w.alloc (.cells k.cells 27)) from below_more (Below.refl _ _) _)
  have HI := Lib.hid (link_info2 k)
  have dg0 : decide (k.id < 1) = false := by simp; omega
  have dg1 : decide (65535 < k.id) = false := by simp; omega
  have dg2 : decide (k.ot < 0) = false := by simp; omega
  have dg3 : decide (65535 < k.ot) = true := by simp; omega
  rw [hs] at s12
  clear hs
  go_enter Try.func32, Try.ntmps32
  go_wp2_with (first
    | (with_reducible refine wpList_load_row rfl 27 (.tmp 1) rfl w.heap.size rfl 27 k.cells (0, 0) _ R0.out Try.underlying27 rfl HI.out ?_)
    | ((with_reducible refine wpList_load_subG ?_ 27 (.tmp 1) rfl w.heap.size 0 rfl k.cells _ (range_row R0.out) Try.underlying27 rfl HI.out ?_); (as_aux_lemma => kernel_rfl))
    | (go_at_call 51; (with_reducible refine (KN.out _).mono ?_); rintro e w' ⟨rfl, hb⟩; replace R0 := Lib.hid (row_below hb R0.out); replace HB := Lib.hid (below_step HB.out hb); replace s12 := below_kept hb s12; replace s14 := below_kept hb s14; replace s15 := below_kept hb s15; replace s16 := below_kept hb s16; clear hb)
    | (go_at_call 46; (with_reducible refine (KW.out _).mono ?_); rintro e w' ⟨rfl, hb⟩; replace R0 := Lib.hid (row_below hb R0.out); replace HB := Lib.hid (below_step HB.out hb); replace s12 := below_kept hb s12; replace s14 := below_kept hb s14; replace s15 := below_kept hb s15; replace s16 := below_kept hb s16; clear hb))
  go_ret
  exact ⟨rfl, HB.out⟩
set_option maxHeartbeats 2000000 in
theorem rc_0_4 (k : Lk) (hB : k.By) (hs : k.st = 0) (hsame : k.same = false) (g0 : 1 ≤ k.id) (g1 : k.id ≤ 65535) (g2 : 0 ≤ k.ot) (g3 : k.ot ≤ 65535) (g4 : k.ot ≠ 0) (w : World) : Calls Try.prog 32 #[.agg k.cells] w fun e w' => e = .returned (.int .i64 8) ∧ Below w.heap.size w w' := by
  have KN := Lib.hid (fun W => show Calls Try.prog 51 #[.agg k.cells] W (fun e w' => e = .returned (.bool false) ∧ Below W.heap.size W w') from by have h := known_any k W; rw [show knownB k = false by simp only [knownB, hs]; rfl] at h; exact h)
  have KW := Lib.hid (fun W => show Calls Try.prog 46 #[.agg k.cells] W (fun e w' => e = .returned (.bool false) ∧ Below W.heap.size W w') from by have h := waits_any k W; rw [show waitsB k = false by simp only [waitsB, hs]; rfl] at h; exact h)
  have E := eql_addr k.o0 k.o1 k.o2 k.o3 k.o4 k.o5 k.p0 k.p1 k.p2 k.p3 k.p4 k.p5 hB.o0 hB.o1 hB.o2 hB.o3 hB.o4 hB.o5 hB.p0 hB.p1 hB.p2 hB.p3 hB.p4 hB.p5
  rw [show addrB k.o0 k.o1 k.o2 k.o3 k.o4 k.o5 k.p0 k.p1 k.p2 k.p3 k.p4 k.p5 = false from hsame] at E
  clear hsame hB
  have R0 := Lib.hid (fr_rows1 w (.cells k.cells 27))
  have a0 : (w.alloc (.cells k.cells 27)).cell? ⟨w.heap.size, 0, none⟩ = some (.int .u8 k.o0) := (cell_of_row _ _ _ _ _ _ R0.out).trans rfl
  have a1 : (w.alloc (.cells k.cells 27)).cell? ⟨w.heap.size, 1, none⟩ = some (.int .u8 k.o1) := (cell_of_row _ _ _ _ _ _ R0.out).trans rfl
  have a2 : (w.alloc (.cells k.cells 27)).cell? ⟨w.heap.size, 2, none⟩ = some (.int .u8 k.o2) := (cell_of_row _ _ _ _ _ _ R0.out).trans rfl
  have a3 : (w.alloc (.cells k.cells 27)).cell? ⟨w.heap.size, 3, none⟩ = some (.int .u8 k.o3) := (cell_of_row _ _ _ _ _ _ R0.out).trans rfl
  have a4 : (w.alloc (.cells k.cells 27)).cell? ⟨w.heap.size, 4, none⟩ = some (.int .u8 k.o4) := (cell_of_row _ _ _ _ _ _ R0.out).trans rfl
  have a5 : (w.alloc (.cells k.cells 27)).cell? ⟨w.heap.size, 5, none⟩ = some (.int .u8 k.o5) := (cell_of_row _ _ _ _ _ _ R0.out).trans rfl
  have a6 : (w.alloc (.cells k.cells 27)).cell? ⟨w.heap.size, 6, none⟩ = some (.int .u8 k.p0) := (cell_of_row _ _ _ _ _ _ R0.out).trans rfl
  have a7 : (w.alloc (.cells k.cells 27)).cell? ⟨w.heap.size, 7, none⟩ = some (.int .u8 k.p1) := (cell_of_row _ _ _ _ _ _ R0.out).trans rfl
  have a8 : (w.alloc (.cells k.cells 27)).cell? ⟨w.heap.size, 8, none⟩ = some (.int .u8 k.p2) := (cell_of_row _ _ _ _ _ _ R0.out).trans rfl
  have a9 : (w.alloc (.cells k.cells 27)).cell? ⟨w.heap.size, 9, none⟩ = some (.int .u8 k.p3) := (cell_of_row _ _ _ _ _ _ R0.out).trans rfl
  have a10 : (w.alloc (.cells k.cells 27)).cell? ⟨w.heap.size, 10, none⟩ = some (.int .u8 k.p4) := (cell_of_row _ _ _ _ _ _ R0.out).trans rfl
  have a11 : (w.alloc (.cells k.cells 27)).cell? ⟨w.heap.size, 11, none⟩ = some (.int .u8 k.p5) := (cell_of_row _ _ _ _ _ _ R0.out).trans rfl
  have s12 : (w.alloc (.cells k.cells 27)).cell? ⟨w.heap.size, 12, none⟩ = some (.int .u8 k.st) := (cell_of_row _ _ _ _ _ _ R0.out).trans rfl
  have s13 : (w.alloc (.cells k.cells 27)).cell? ⟨w.heap.size, 13, none⟩ = some (.int .i64 k.id) := (cell_of_row _ _ _ _ _ _ R0.out).trans rfl
  have s14 : (w.alloc (.cells k.cells 27)).cell? ⟨w.heap.size, 14, none⟩ = some (.int .i64 k.ot) := (cell_of_row _ _ _ _ _ _ R0.out).trans rfl
  have s15 : (w.alloc (.cells k.cells 27)).cell? ⟨w.heap.size, 15, none⟩ = some (.int .i64 k.tr) := (cell_of_row _ _ _ _ _ _ R0.out).trans rfl
  have s16 : (w.alloc (.cells k.cells 27)).cell? ⟨w.heap.size, 16, none⟩ = some (.int .i64 k.du) := (cell_of_row _ _ _ _ _ _ R0.out).trans rfl
  have HB := Lib.hid (show Below w.heap.size w (w.alloc (.cells k.cells 27)) from below_more (Below.refl _ _) _)
  have HI := Lib.hid (link_info2 k)
  have dg0 : decide (k.id < 1) = false := by simp; omega
  have dg1 : decide (65535 < k.id) = false := by simp; omega
  have dg2 : decide (k.ot < 0) = false := by simp; omega
  have dg3 : decide (65535 < k.ot) = false := by simp; omega
  have dg4 : (k.ot == 0) = false := by simpa using g4
  have eg4 : (k.ot != 0) = true := by simpa using g4
  rw [hs] at s12
  clear hs
  go_enter Try.func32, Try.ntmps32
  go_wp2_with (first
    | (with_reducible refine wpList_load_row rfl 27 (.tmp 1) rfl w.heap.size rfl 27 k.cells (0, 0) _ R0.out Try.underlying27 rfl HI.out ?_)
    | ((with_reducible refine wpList_load_subG ?_ 27 (.tmp 1) rfl w.heap.size 0 rfl k.cells _ (range_row R0.out) Try.underlying27 rfl HI.out ?_); (as_aux_lemma => kernel_rfl))
    | (go_at_call 51; (with_reducible refine (KN.out _).mono ?_); rintro e w' ⟨rfl, hb⟩; replace R0 := Lib.hid (row_below hb R0.out); replace HB := Lib.hid (below_step HB.out hb); replace s12 := below_kept hb s12; replace s14 := below_kept hb s14; replace s15 := below_kept hb s15; replace s16 := below_kept hb s16; clear hb)
    | (go_at_call 46; (with_reducible refine (KW.out _).mono ?_); rintro e w' ⟨rfl, hb⟩; replace R0 := Lib.hid (row_below hb R0.out); replace HB := Lib.hid (below_step HB.out hb); replace s12 := below_kept hb s12; replace s14 := below_kept hb s14; replace s15 := below_kept hb s15; replace s16 := below_kept hb s16; clear hb))
  go_ret
  exact ⟨rfl, HB.out⟩
set_option maxHeartbeats 2000000 in
theorem rc_0_5 (k : Lk) (hB : k.By) (hs : k.st = 0) (hsame : k.same = false) (g0 : 1 ≤ k.id) (g1 : k.id ≤ 65535) (g2 : 0 ≤ k.ot) (g3 : k.ot ≤ 65535) (g4 : k.ot = 0) (g5 : k.tr ≠ 0) (w : World) : Calls Try.prog 32 #[.agg k.cells] w fun e w' => e = .returned (.int .i64 8) ∧ Below w.heap.size w w' := by
  have KN := Lib.hid (fun W => show Calls Try.prog 51 #[.agg k.cells] W (fun e w' => e = .returned (.bool false) ∧ Below W.heap.size W w') from by have h := known_any k W; rw [show knownB k = false by simp only [knownB, hs]; rfl] at h; exact h)
  have KW := Lib.hid (fun W => show Calls Try.prog 46 #[.agg k.cells] W (fun e w' => e = .returned (.bool false) ∧ Below W.heap.size W w') from by have h := waits_any k W; rw [show waitsB k = false by simp only [waitsB, hs]; rfl] at h; exact h)
  have E := eql_addr k.o0 k.o1 k.o2 k.o3 k.o4 k.o5 k.p0 k.p1 k.p2 k.p3 k.p4 k.p5 hB.o0 hB.o1 hB.o2 hB.o3 hB.o4 hB.o5 hB.p0 hB.p1 hB.p2 hB.p3 hB.p4 hB.p5
  rw [show addrB k.o0 k.o1 k.o2 k.o3 k.o4 k.o5 k.p0 k.p1 k.p2 k.p3 k.p4 k.p5 = false from hsame] at E
  clear hsame hB
  have R0 := Lib.hid (fr_rows1 w (.cells k.cells 27))
  have a0 : (w.alloc (.cells k.cells 27)).cell? ⟨w.heap.size, 0, none⟩ = some (.int .u8 k.o0) := (cell_of_row _ _ _ _ _ _ R0.out).trans rfl
  have a1 : (w.alloc (.cells k.cells 27)).cell? ⟨w.heap.size, 1, none⟩ = some (.int .u8 k.o1) := (cell_of_row _ _ _ _ _ _ R0.out).trans rfl
  have a2 : (w.alloc (.cells k.cells 27)).cell? ⟨w.heap.size, 2, none⟩ = some (.int .u8 k.o2) := (cell_of_row _ _ _ _ _ _ R0.out).trans rfl
  have a3 : (w.alloc (.cells k.cells 27)).cell? ⟨w.heap.size, 3, none⟩ = some (.int .u8 k.o3) := (cell_of_row _ _ _ _ _ _ R0.out).trans rfl
  have a4 : (w.alloc (.cells k.cells 27)).cell? ⟨w.heap.size, 4, none⟩ = some (.int .u8 k.o4) := (cell_of_row _ _ _ _ _ _ R0.out).trans rfl
  have a5 : (w.alloc (.cells k.cells 27)).cell? ⟨w.heap.size, 5, none⟩ = some (.int .u8 k.o5) := (cell_of_row _ _ _ _ _ _ R0.out).trans rfl
  have a6 : (w.alloc (.cells k.cells 27)).cell? ⟨w.heap.size, 6, none⟩ = some (.int .u8 k.p0) := (cell_of_row _ _ _ _ _ _ R0.out).trans rfl
  have a7 : (w.alloc (.cells k.cells 27)).cell? ⟨w.heap.size, 7, none⟩ = some (.int .u8 k.p1) := (cell_of_row _ _ _ _ _ _ R0.out).trans rfl
  have a8 : (w.alloc (.cells k.cells 27)).cell? ⟨w.heap.size, 8, none⟩ = some (.int .u8 k.p2) := (cell_of_row _ _ _ _ _ _ R0.out).trans rfl
  have a9 : (w.alloc (.cells k.cells 27)).cell? ⟨w.heap.size, 9, none⟩ = some (.int .u8 k.p3) := (cell_of_row _ _ _ _ _ _ R0.out).trans rfl
  have a10 : (w.alloc (.cells k.cells 27)).cell? ⟨w.heap.size, 10, none⟩ = some (.int .u8 k.p4) := (cell_of_row _ _ _ _ _ _ R0.out).trans rfl
  have a11 : (w.alloc (.cells k.cells 27)).cell? ⟨w.heap.size, 11, none⟩ = some (.int .u8 k.p5) := (cell_of_row _ _ _ _ _ _ R0.out).trans rfl
  have s12 : (w.alloc (.cells k.cells 27)).cell? ⟨w.heap.size, 12, none⟩ = some (.int .u8 k.st) := (cell_of_row _ _ _ _ _ _ R0.out).trans rfl
  have s13 : (w.alloc (.cells k.cells 27)).cell? ⟨w.heap.size, 13, none⟩ = some (.int .i64 k.id) := (cell_of_row _ _ _ _ _ _ R0.out).trans rfl
  have s14 : (w.alloc (.cells k.cells 27)).cell? ⟨w.heap.size, 14, none⟩ = some (.int .i64 k.ot) := (cell_of_row _ _ _ _ _ _ R0.out).trans rfl
  have s15 : (w.alloc (.cells k.cells 27)).cell? ⟨w.heap.size, 15, none⟩ = some (.int .i64 k.tr) := (cell_of_row _ _ _ _ _ _ R0.out).trans rfl
  have s16 : (w.alloc (.cells k.cells 27)).cell? ⟨w.heap.size, 16, none⟩ = some (.int .i64 k.du) := (cell_of_row _ _ _ _ _ _ R0.out).trans rfl
  have HB := Lib.hid (show Below w.heap.size w (w.alloc (.cells k.cells 27)) from below_more (Below.refl _ _) _)
  have HI := Lib.hid (link_info2 k)
  have dg0 : decide (k.id < 1) = false := by simp; omega
  have dg1 : decide (65535 < k.id) = false := by simp; omega
  have dg2 : decide (k.ot < 0) = false := by simp; omega
  have dg3 : decide (65535 < k.ot) = false := by simp; omega
  have dg4 : (k.ot == 0) = true := by simpa using g4
  have eg4 : (k.ot != 0) = false := by simpa using g4
  have dg5 : (k.tr == 0) = false := by simpa using g5
  have eg5 : (k.tr != 0) = true := by simpa using g5
  rw [hs] at s12
  clear hs
  go_enter Try.func32, Try.ntmps32
  go_wp2_with (first
    | (with_reducible refine wpList_load_row rfl 27 (.tmp 1) rfl w.heap.size rfl 27 k.cells (0, 0) _ R0.out Try.underlying27 rfl HI.out ?_)
    | ((with_reducible refine wpList_load_subG ?_ 27 (.tmp 1) rfl w.heap.size 0 rfl k.cells _ (range_row R0.out) Try.underlying27 rfl HI.out ?_); (as_aux_lemma => kernel_rfl))
    | (go_at_call 51; (with_reducible refine (KN.out _).mono ?_); rintro e w' ⟨rfl, hb⟩; replace R0 := Lib.hid (row_below hb R0.out); replace HB := Lib.hid (below_step HB.out hb); replace s12 := below_kept hb s12; replace s14 := below_kept hb s14; replace s15 := below_kept hb s15; replace s16 := below_kept hb s16; clear hb)
    | (go_at_call 46; (with_reducible refine (KW.out _).mono ?_); rintro e w' ⟨rfl, hb⟩; replace R0 := Lib.hid (row_below hb R0.out); replace HB := Lib.hid (below_step HB.out hb); replace s12 := below_kept hb s12; replace s14 := below_kept hb s14; replace s15 := below_kept hb s15; replace s16 := below_kept hb s16; clear hb))
  go_ret
  exact ⟨rfl, HB.out⟩
set_option maxHeartbeats 2000000 in
theorem rc_0_6 (k : Lk) (hB : k.By) (hs : k.st = 0) (hsame : k.same = false) (g0 : 1 ≤ k.id) (g1 : k.id ≤ 65535) (g2 : 0 ≤ k.ot) (g3 : k.ot ≤ 65535) (g4 : k.ot = 0) (g5 : k.tr = 0) (g6 : k.du ≠ 0) (w : World) : Calls Try.prog 32 #[.agg k.cells] w fun e w' => e = .returned (.int .i64 8) ∧ Below w.heap.size w w' := by
  have KN := Lib.hid (fun W => show Calls Try.prog 51 #[.agg k.cells] W (fun e w' => e = .returned (.bool false) ∧ Below W.heap.size W w') from by have h := known_any k W; rw [show knownB k = false by simp only [knownB, hs]; rfl] at h; exact h)
  have KW := Lib.hid (fun W => show Calls Try.prog 46 #[.agg k.cells] W (fun e w' => e = .returned (.bool false) ∧ Below W.heap.size W w') from by have h := waits_any k W; rw [show waitsB k = false by simp only [waitsB, hs]; rfl] at h; exact h)
  have E := eql_addr k.o0 k.o1 k.o2 k.o3 k.o4 k.o5 k.p0 k.p1 k.p2 k.p3 k.p4 k.p5 hB.o0 hB.o1 hB.o2 hB.o3 hB.o4 hB.o5 hB.p0 hB.p1 hB.p2 hB.p3 hB.p4 hB.p5
  rw [show addrB k.o0 k.o1 k.o2 k.o3 k.o4 k.o5 k.p0 k.p1 k.p2 k.p3 k.p4 k.p5 = false from hsame] at E
  clear hsame hB
  have R0 := Lib.hid (fr_rows1 w (.cells k.cells 27))
  have a0 : (w.alloc (.cells k.cells 27)).cell? ⟨w.heap.size, 0, none⟩ = some (.int .u8 k.o0) := (cell_of_row _ _ _ _ _ _ R0.out).trans rfl
  have a1 : (w.alloc (.cells k.cells 27)).cell? ⟨w.heap.size, 1, none⟩ = some (.int .u8 k.o1) := (cell_of_row _ _ _ _ _ _ R0.out).trans rfl
  have a2 : (w.alloc (.cells k.cells 27)).cell? ⟨w.heap.size, 2, none⟩ = some (.int .u8 k.o2) := (cell_of_row _ _ _ _ _ _ R0.out).trans rfl
  have a3 : (w.alloc (.cells k.cells 27)).cell? ⟨w.heap.size, 3, none⟩ = some (.int .u8 k.o3) := (cell_of_row _ _ _ _ _ _ R0.out).trans rfl
  have a4 : (w.alloc (.cells k.cells 27)).cell? ⟨w.heap.size, 4, none⟩ = some (.int .u8 k.o4) := (cell_of_row _ _ _ _ _ _ R0.out).trans rfl
  have a5 : (w.alloc (.cells k.cells 27)).cell? ⟨w.heap.size, 5, none⟩ = some (.int .u8 k.o5) := (cell_of_row _ _ _ _ _ _ R0.out).trans rfl
  have a6 : (w.alloc (.cells k.cells 27)).cell? ⟨w.heap.size, 6, none⟩ = some (.int .u8 k.p0) := (cell_of_row _ _ _ _ _ _ R0.out).trans rfl
  have a7 : (w.alloc (.cells k.cells 27)).cell? ⟨w.heap.size, 7, none⟩ = some (.int .u8 k.p1) := (cell_of_row _ _ _ _ _ _ R0.out).trans rfl
  have a8 : (w.alloc (.cells k.cells 27)).cell? ⟨w.heap.size, 8, none⟩ = some (.int .u8 k.p2) := (cell_of_row _ _ _ _ _ _ R0.out).trans rfl
  have a9 : (w.alloc (.cells k.cells 27)).cell? ⟨w.heap.size, 9, none⟩ = some (.int .u8 k.p3) := (cell_of_row _ _ _ _ _ _ R0.out).trans rfl
  have a10 : (w.alloc (.cells k.cells 27)).cell? ⟨w.heap.size, 10, none⟩ = some (.int .u8 k.p4) := (cell_of_row _ _ _ _ _ _ R0.out).trans rfl
  have a11 : (w.alloc (.cells k.cells 27)).cell? ⟨w.heap.size, 11, none⟩ = some (.int .u8 k.p5) := (cell_of_row _ _ _ _ _ _ R0.out).trans rfl
  have s12 : (w.alloc (.cells k.cells 27)).cell? ⟨w.heap.size, 12, none⟩ = some (.int .u8 k.st) := (cell_of_row _ _ _ _ _ _ R0.out).trans rfl
  have s13 : (w.alloc (.cells k.cells 27)).cell? ⟨w.heap.size, 13, none⟩ = some (.int .i64 k.id) := (cell_of_row _ _ _ _ _ _ R0.out).trans rfl
  have s14 : (w.alloc (.cells k.cells 27)).cell? ⟨w.heap.size, 14, none⟩ = some (.int .i64 k.ot) := (cell_of_row _ _ _ _ _ _ R0.out).trans rfl
  have s15 : (w.alloc (.cells k.cells 27)).cell? ⟨w.heap.size, 15, none⟩ = some (.int .i64 k.tr) := (cell_of_row _ _ _ _ _ _ R0.out).trans rfl
  have s16 : (w.alloc (.cells k.cells 27)).cell? ⟨w.heap.size, 16, none⟩ = some (.int .i64 k.du) := (cell_of_row _ _ _ _ _ _ R0.out).trans rfl
  have HB := Lib.hid (show Below w.heap.size w (w.alloc (.cells k.cells 27)) from below_more (Below.refl _ _) _)
  have HI := Lib.hid (link_info2 k)
  have dg0 : decide (k.id < 1) = false := by simp; omega
  have dg1 : decide (65535 < k.id) = false := by simp; omega
  have dg2 : decide (k.ot < 0) = false := by simp; omega
  have dg3 : decide (65535 < k.ot) = false := by simp; omega
  have dg4 : (k.ot == 0) = true := by simpa using g4
  have eg4 : (k.ot != 0) = false := by simpa using g4
  have dg5 : (k.tr == 0) = true := by simpa using g5
  have eg5 : (k.tr != 0) = false := by simpa using g5
  have dg6 : (k.du == 0) = false := by simpa using g6
  have eg6 : (k.du != 0) = true := by simpa using g6
  rw [hs] at s12
  clear hs
  go_enter Try.func32, Try.ntmps32
  go_wp2_with (first
    | (with_reducible refine wpList_load_row rfl 27 (.tmp 1) rfl w.heap.size rfl 27 k.cells (0, 0) _ R0.out Try.underlying27 rfl HI.out ?_)
    | ((with_reducible refine wpList_load_subG ?_ 27 (.tmp 1) rfl w.heap.size 0 rfl k.cells _ (range_row R0.out) Try.underlying27 rfl HI.out ?_); (as_aux_lemma => kernel_rfl))
    | (go_at_call 51; (with_reducible refine (KN.out _).mono ?_); rintro e w' ⟨rfl, hb⟩; replace R0 := Lib.hid (row_below hb R0.out); replace HB := Lib.hid (below_step HB.out hb); replace s12 := below_kept hb s12; replace s14 := below_kept hb s14; replace s15 := below_kept hb s15; replace s16 := below_kept hb s16; clear hb)
    | (go_at_call 46; (with_reducible refine (KW.out _).mono ?_); rintro e w' ⟨rfl, hb⟩; replace R0 := Lib.hid (row_below hb R0.out); replace HB := Lib.hid (below_step HB.out hb); replace s12 := below_kept hb s12; replace s14 := below_kept hb s14; replace s15 := below_kept hb s15; replace s16 := below_kept hb s16; clear hb))
  go_ret
  exact ⟨rfl, HB.out⟩
set_option maxHeartbeats 2000000 in
theorem rc_0_ok (k : Lk) (hB : k.By) (hs : k.st = 0) (hsame : k.same = false) (g0 : 1 ≤ k.id) (g1 : k.id ≤ 65535) (g2 : 0 ≤ k.ot) (g3 : k.ot ≤ 65535) (g4 : k.ot = 0) (g5 : k.tr = 0) (g6 : k.du = 0) (w : World) : Calls Try.prog 32 #[.agg k.cells] w fun e w' => e = .returned (.int .i64 0) ∧ Below w.heap.size w w' := by
  have KN := Lib.hid (fun W => show Calls Try.prog 51 #[.agg k.cells] W (fun e w' => e = .returned (.bool false) ∧ Below W.heap.size W w') from by have h := known_any k W; rw [show knownB k = false by simp only [knownB, hs]; rfl] at h; exact h)
  have KW := Lib.hid (fun W => show Calls Try.prog 46 #[.agg k.cells] W (fun e w' => e = .returned (.bool false) ∧ Below W.heap.size W w') from by have h := waits_any k W; rw [show waitsB k = false by simp only [waitsB, hs]; rfl] at h; exact h)
  have E := eql_addr k.o0 k.o1 k.o2 k.o3 k.o4 k.o5 k.p0 k.p1 k.p2 k.p3 k.p4 k.p5 hB.o0 hB.o1 hB.o2 hB.o3 hB.o4 hB.o5 hB.p0 hB.p1 hB.p2 hB.p3 hB.p4 hB.p5
  rw [show addrB k.o0 k.o1 k.o2 k.o3 k.o4 k.o5 k.p0 k.p1 k.p2 k.p3 k.p4 k.p5 = false from hsame] at E
  clear hsame hB
  have R0 := Lib.hid (fr_rows1 w (.cells k.cells 27))
  have a0 : (w.alloc (.cells k.cells 27)).cell? ⟨w.heap.size, 0, none⟩ = some (.int .u8 k.o0) := (cell_of_row _ _ _ _ _ _ R0.out).trans rfl
  have a1 : (w.alloc (.cells k.cells 27)).cell? ⟨w.heap.size, 1, none⟩ = some (.int .u8 k.o1) := (cell_of_row _ _ _ _ _ _ R0.out).trans rfl
  have a2 : (w.alloc (.cells k.cells 27)).cell? ⟨w.heap.size, 2, none⟩ = some (.int .u8 k.o2) := (cell_of_row _ _ _ _ _ _ R0.out).trans rfl
  have a3 : (w.alloc (.cells k.cells 27)).cell? ⟨w.heap.size, 3, none⟩ = some (.int .u8 k.o3) := (cell_of_row _ _ _ _ _ _ R0.out).trans rfl
  have a4 : (w.alloc (.cells k.cells 27)).cell? ⟨w.heap.size, 4, none⟩ = some (.int .u8 k.o4) := (cell_of_row _ _ _ _ _ _ R0.out).trans rfl
  have a5 : (w.alloc (.cells k.cells 27)).cell? ⟨w.heap.size, 5, none⟩ = some (.int .u8 k.o5) := (cell_of_row _ _ _ _ _ _ R0.out).trans rfl
  have a6 : (w.alloc (.cells k.cells 27)).cell? ⟨w.heap.size, 6, none⟩ = some (.int .u8 k.p0) := (cell_of_row _ _ _ _ _ _ R0.out).trans rfl
  have a7 : (w.alloc (.cells k.cells 27)).cell? ⟨w.heap.size, 7, none⟩ = some (.int .u8 k.p1) := (cell_of_row _ _ _ _ _ _ R0.out).trans rfl
  have a8 : (w.alloc (.cells k.cells 27)).cell? ⟨w.heap.size, 8, none⟩ = some (.int .u8 k.p2) := (cell_of_row _ _ _ _ _ _ R0.out).trans rfl
  have a9 : (w.alloc (.cells k.cells 27)).cell? ⟨w.heap.size, 9, none⟩ = some (.int .u8 k.p3) := (cell_of_row _ _ _ _ _ _ R0.out).trans rfl
  have a10 : (w.alloc (.cells k.cells 27)).cell? ⟨w.heap.size, 10, none⟩ = some (.int .u8 k.p4) := (cell_of_row _ _ _ _ _ _ R0.out).trans rfl
  have a11 : (w.alloc (.cells k.cells 27)).cell? ⟨w.heap.size, 11, none⟩ = some (.int .u8 k.p5) := (cell_of_row _ _ _ _ _ _ R0.out).trans rfl
  have s12 : (w.alloc (.cells k.cells 27)).cell? ⟨w.heap.size, 12, none⟩ = some (.int .u8 k.st) := (cell_of_row _ _ _ _ _ _ R0.out).trans rfl
  have s13 : (w.alloc (.cells k.cells 27)).cell? ⟨w.heap.size, 13, none⟩ = some (.int .i64 k.id) := (cell_of_row _ _ _ _ _ _ R0.out).trans rfl
  have s14 : (w.alloc (.cells k.cells 27)).cell? ⟨w.heap.size, 14, none⟩ = some (.int .i64 k.ot) := (cell_of_row _ _ _ _ _ _ R0.out).trans rfl
  have s15 : (w.alloc (.cells k.cells 27)).cell? ⟨w.heap.size, 15, none⟩ = some (.int .i64 k.tr) := (cell_of_row _ _ _ _ _ _ R0.out).trans rfl
  have s16 : (w.alloc (.cells k.cells 27)).cell? ⟨w.heap.size, 16, none⟩ = some (.int .i64 k.du) := (cell_of_row _ _ _ _ _ _ R0.out).trans rfl
  have HB := Lib.hid (show Below w.heap.size w (w.alloc (.cells k.cells 27)) from below_more (Below.refl _ _) _)
  have HI := Lib.hid (link_info2 k)
  have dg0 : decide (k.id < 1) = false := by simp; omega
  have dg1 : decide (65535 < k.id) = false := by simp; omega
  have dg2 : decide (k.ot < 0) = false := by simp; omega
  have dg3 : decide (65535 < k.ot) = false := by simp; omega
  have dg4 : (k.ot == 0) = true := by simpa using g4
  have eg4 : (k.ot != 0) = false := by simpa using g4
  have dg5 : (k.tr == 0) = true := by simpa using g5
  have eg5 : (k.tr != 0) = false := by simpa using g5
  have dg6 : (k.du == 0) = true := by simpa using g6
  have eg6 : (k.du != 0) = false := by simpa using g6
  rw [hs] at s12
  clear hs
  go_enter Try.func32, Try.ntmps32
  go_wp2_with (first
    | (with_reducible refine wpList_load_row rfl 27 (.tmp 1) rfl w.heap.size rfl 27 k.cells (0, 0) _ R0.out Try.underlying27 rfl HI.out ?_)
    | ((with_reducible refine wpList_load_subG ?_ 27 (.tmp 1) rfl w.heap.size 0 rfl k.cells _ (range_row R0.out) Try.underlying27 rfl HI.out ?_); (as_aux_lemma => kernel_rfl))
    | (go_at_call 51; (with_reducible refine (KN.out _).mono ?_); rintro e w' ⟨rfl, hb⟩; replace R0 := Lib.hid (row_below hb R0.out); replace HB := Lib.hid (below_step HB.out hb); replace s12 := below_kept hb s12; replace s14 := below_kept hb s14; replace s15 := below_kept hb s15; replace s16 := below_kept hb s16; clear hb)
    | (go_at_call 46; (with_reducible refine (KW.out _).mono ?_); rintro e w' ⟨rfl, hb⟩; replace R0 := Lib.hid (row_below hb R0.out); replace HB := Lib.hid (below_step HB.out hb); replace s12 := below_kept hb s12; replace s14 := below_kept hb s14; replace s15 := below_kept hb s15; replace s16 := below_kept hb s16; clear hb))
  go_ret
  exact ⟨rfl, HB.out⟩
theorem refcheck_0 (k : Lk) (hB : k.By) (hs : k.st = 0) (w : World) : Calls Try.prog 32 #[.agg k.cells] w fun e w' => e = .returned (.int .i64 k.chk) ∧ Below w.heap.size w w' := by
  by_cases hsame : k.same = true
  · rw [chk_bad (fun h => by rw [hsame] at h; exact absurd h.1 (by decide))]
    exact rc_0_same k hB hs hsame w
  have hsm : k.same = false := by simpa using hsame
  by_cases g0 : k.id < 1
  · rw [chk_bad (fun h => by have h2 := h.2; simp only [Lk.Shape] at h2; omega)]
    exact rc_0_0 k hB hs hsm g0 w
  replace g0 : 1 ≤ k.id := by omega
  by_cases g1 : 65535 < k.id
  · rw [chk_bad (fun h => by have h2 := h.2; simp only [Lk.Shape] at h2; omega)]
    exact rc_0_1 k hB hs hsm g0 g1 w
  replace g1 : k.id ≤ 65535 := by omega
  by_cases g2 : k.ot < 0
  · rw [chk_bad (fun h => by have h2 := h.2; simp only [Lk.Shape] at h2; omega)]
    exact rc_0_2 k hB hs hsm g0 g1 g2 w
  replace g2 : 0 ≤ k.ot := by omega
  by_cases g3 : 65535 < k.ot
  · rw [chk_bad (fun h => by have h2 := h.2; simp only [Lk.Shape] at h2; omega)]
    exact rc_0_3 k hB hs hsm g0 g1 g2 g3 w
  replace g3 : k.ot ≤ 65535 := by omega
  by_cases g4 : k.ot ≠ 0
  · rw [chk_bad (fun h => by have h2 := h.2; simp only [Lk.Shape] at h2; omega)]
    exact rc_0_4 k hB hs hsm g0 g1 g2 g3 g4 w
  replace g4 : k.ot = 0 := by omega
  by_cases g5 : k.tr ≠ 0
  · rw [chk_bad (fun h => by have h2 := h.2; simp only [Lk.Shape] at h2; omega)]
    exact rc_0_5 k hB hs hsm g0 g1 g2 g3 g4 g5 w
  replace g5 : k.tr = 0 := by omega
  by_cases g6 : k.du ≠ 0
  · rw [chk_bad (fun h => by have h2 := h.2; simp only [Lk.Shape] at h2; omega)]
    exact rc_0_6 k hB hs hsm g0 g1 g2 g3 g4 g5 g6 w
  replace g6 : k.du = 0 := by omega
  rw [(chk_shape k).2 ⟨hsm, ⟨by omega, by omega⟩, by simp only [Lk.Shape]; omega⟩]
  exact rc_0_ok k hB hs hsm g0 g1 g2 g3 g4 g5 g6 w
set_option maxHeartbeats 2000000 in
theorem rc_1_same (k : Lk) (hB : k.By) (hs : k.st = 1) (hsame : k.same = true) (w : World) : Calls Try.prog 32 #[.agg k.cells] w fun e w' => e = .returned (.int .i64 8) ∧ Below w.heap.size w w' := by
  have KN := Lib.hid (fun W => show Calls Try.prog 51 #[.agg k.cells] W (fun e w' => e = .returned (.bool false) ∧ Below W.heap.size W w') from by have h := known_any k W; rw [show knownB k = false by simp only [knownB, hs]; rfl] at h; exact h)
  have KW := Lib.hid (fun W => show Calls Try.prog 46 #[.agg k.cells] W (fun e w' => e = .returned (.bool true) ∧ Below W.heap.size W w') from by have h := waits_any k W; rw [show waitsB k = true by simp only [waitsB, hs]; rfl] at h; exact h)
  have E := eql_addr k.o0 k.o1 k.o2 k.o3 k.o4 k.o5 k.p0 k.p1 k.p2 k.p3 k.p4 k.p5 hB.o0 hB.o1 hB.o2 hB.o3 hB.o4 hB.o5 hB.p0 hB.p1 hB.p2 hB.p3 hB.p4 hB.p5
  rw [show addrB k.o0 k.o1 k.o2 k.o3 k.o4 k.o5 k.p0 k.p1 k.p2 k.p3 k.p4 k.p5 = true from hsame] at E
  clear hsame hB
  have R0 := Lib.hid (fr_rows1 w (.cells k.cells 27))
  have a0 : (w.alloc (.cells k.cells 27)).cell? ⟨w.heap.size, 0, none⟩ = some (.int .u8 k.o0) := (cell_of_row _ _ _ _ _ _ R0.out).trans rfl
  have a1 : (w.alloc (.cells k.cells 27)).cell? ⟨w.heap.size, 1, none⟩ = some (.int .u8 k.o1) := (cell_of_row _ _ _ _ _ _ R0.out).trans rfl
  have a2 : (w.alloc (.cells k.cells 27)).cell? ⟨w.heap.size, 2, none⟩ = some (.int .u8 k.o2) := (cell_of_row _ _ _ _ _ _ R0.out).trans rfl
  have a3 : (w.alloc (.cells k.cells 27)).cell? ⟨w.heap.size, 3, none⟩ = some (.int .u8 k.o3) := (cell_of_row _ _ _ _ _ _ R0.out).trans rfl
  have a4 : (w.alloc (.cells k.cells 27)).cell? ⟨w.heap.size, 4, none⟩ = some (.int .u8 k.o4) := (cell_of_row _ _ _ _ _ _ R0.out).trans rfl
  have a5 : (w.alloc (.cells k.cells 27)).cell? ⟨w.heap.size, 5, none⟩ = some (.int .u8 k.o5) := (cell_of_row _ _ _ _ _ _ R0.out).trans rfl
  have a6 : (w.alloc (.cells k.cells 27)).cell? ⟨w.heap.size, 6, none⟩ = some (.int .u8 k.p0) := (cell_of_row _ _ _ _ _ _ R0.out).trans rfl
  have a7 : (w.alloc (.cells k.cells 27)).cell? ⟨w.heap.size, 7, none⟩ = some (.int .u8 k.p1) := (cell_of_row _ _ _ _ _ _ R0.out).trans rfl
  have a8 : (w.alloc (.cells k.cells 27)).cell? ⟨w.heap.size, 8, none⟩ = some (.int .u8 k.p2) := (cell_of_row _ _ _ _ _ _ R0.out).trans rfl
  have a9 : (w.alloc (.cells k.cells 27)).cell? ⟨w.heap.size, 9, none⟩ = some (.int .u8 k.p3) := (cell_of_row _ _ _ _ _ _ R0.out).trans rfl
  have a10 : (w.alloc (.cells k.cells 27)).cell? ⟨w.heap.size, 10, none⟩ = some (.int .u8 k.p4) := (cell_of_row _ _ _ _ _ _ R0.out).trans rfl
  have a11 : (w.alloc (.cells k.cells 27)).cell? ⟨w.heap.size, 11, none⟩ = some (.int .u8 k.p5) := (cell_of_row _ _ _ _ _ _ R0.out).trans rfl
  have s12 : (w.alloc (.cells k.cells 27)).cell? ⟨w.heap.size, 12, none⟩ = some (.int .u8 k.st) := (cell_of_row _ _ _ _ _ _ R0.out).trans rfl
  have s13 : (w.alloc (.cells k.cells 27)).cell? ⟨w.heap.size, 13, none⟩ = some (.int .i64 k.id) := (cell_of_row _ _ _ _ _ _ R0.out).trans rfl
  have s14 : (w.alloc (.cells k.cells 27)).cell? ⟨w.heap.size, 14, none⟩ = some (.int .i64 k.ot) := (cell_of_row _ _ _ _ _ _ R0.out).trans rfl
  have s15 : (w.alloc (.cells k.cells 27)).cell? ⟨w.heap.size, 15, none⟩ = some (.int .i64 k.tr) := (cell_of_row _ _ _ _ _ _ R0.out).trans rfl
  have s16 : (w.alloc (.cells k.cells 27)).cell? ⟨w.heap.size, 16, none⟩ = some (.int .i64 k.du) := (cell_of_row _ _ _ _ _ _ R0.out).trans rfl
  have HB := Lib.hid (show Below w.heap.size w (w.alloc (.cells k.cells 27)) from below_more (Below.refl _ _) _)
  have HI := Lib.hid (link_info2 k)
  rw [hs] at s12
  clear hs
  go_enter Try.func32, Try.ntmps32
  go_wp2_with (first
    | (with_reducible refine wpList_load_row rfl 27 (.tmp 1) rfl w.heap.size rfl 27 k.cells (0, 0) _ R0.out Try.underlying27 rfl HI.out ?_)
    | ((with_reducible refine wpList_load_subG ?_ 27 (.tmp 1) rfl w.heap.size 0 rfl k.cells _ (range_row R0.out) Try.underlying27 rfl HI.out ?_); (as_aux_lemma => kernel_rfl))
    | (go_at_call 51; (with_reducible refine (KN.out _).mono ?_); rintro e w' ⟨rfl, hb⟩; replace R0 := Lib.hid (row_below hb R0.out); replace HB := Lib.hid (below_step HB.out hb); replace s12 := below_kept hb s12; replace s14 := below_kept hb s14; replace s15 := below_kept hb s15; replace s16 := below_kept hb s16; clear hb)
    | (go_at_call 46; (with_reducible refine (KW.out _).mono ?_); rintro e w' ⟨rfl, hb⟩; replace R0 := Lib.hid (row_below hb R0.out); replace HB := Lib.hid (below_step HB.out hb); replace s12 := below_kept hb s12; replace s14 := below_kept hb s14; replace s15 := below_kept hb s15; replace s16 := below_kept hb s16; clear hb))
  go_ret
  exact ⟨rfl, HB.out⟩
set_option maxHeartbeats 2000000 in
theorem rc_1_0 (k : Lk) (hB : k.By) (hs : k.st = 1) (hsame : k.same = false) (g0 : k.id < 1) (w : World) : Calls Try.prog 32 #[.agg k.cells] w fun e w' => e = .returned (.int .i64 8) ∧ Below w.heap.size w w' := by
  have KN := Lib.hid (fun W => show Calls Try.prog 51 #[.agg k.cells] W (fun e w' => e = .returned (.bool false) ∧ Below W.heap.size W w') from by have h := known_any k W; rw [show knownB k = false by simp only [knownB, hs]; rfl] at h; exact h)
  have KW := Lib.hid (fun W => show Calls Try.prog 46 #[.agg k.cells] W (fun e w' => e = .returned (.bool true) ∧ Below W.heap.size W w') from by have h := waits_any k W; rw [show waitsB k = true by simp only [waitsB, hs]; rfl] at h; exact h)
  have E := eql_addr k.o0 k.o1 k.o2 k.o3 k.o4 k.o5 k.p0 k.p1 k.p2 k.p3 k.p4 k.p5 hB.o0 hB.o1 hB.o2 hB.o3 hB.o4 hB.o5 hB.p0 hB.p1 hB.p2 hB.p3 hB.p4 hB.p5
  rw [show addrB k.o0 k.o1 k.o2 k.o3 k.o4 k.o5 k.p0 k.p1 k.p2 k.p3 k.p4 k.p5 = false from hsame] at E
  clear hsame hB
  have R0 := Lib.hid (fr_rows1 w (.cells k.cells 27))
  have a0 : (w.alloc (.cells k.cells 27)).cell? ⟨w.heap.size, 0, none⟩ = some (.int .u8 k.o0) := (cell_of_row _ _ _ _ _ _ R0.out).trans rfl
  have a1 : (w.alloc (.cells k.cells 27)).cell? ⟨w.heap.size, 1, none⟩ = some (.int .u8 k.o1) := (cell_of_row _ _ _ _ _ _ R0.out).trans rfl
  have a2 : (w.alloc (.cells k.cells 27)).cell? ⟨w.heap.size, 2, none⟩ = some (.int .u8 k.o2) := (cell_of_row _ _ _ _ _ _ R0.out).trans rfl
  have a3 : (w.alloc (.cells k.cells 27)).cell? ⟨w.heap.size, 3, none⟩ = some (.int .u8 k.o3) := (cell_of_row _ _ _ _ _ _ R0.out).trans rfl
  have a4 : (w.alloc (.cells k.cells 27)).cell? ⟨w.heap.size, 4, none⟩ = some (.int .u8 k.o4) := (cell_of_row _ _ _ _ _ _ R0.out).trans rfl
  have a5 : (w.alloc (.cells k.cells 27)).cell? ⟨w.heap.size, 5, none⟩ = some (.int .u8 k.o5) := (cell_of_row _ _ _ _ _ _ R0.out).trans rfl
  have a6 : (w.alloc (.cells k.cells 27)).cell? ⟨w.heap.size, 6, none⟩ = some (.int .u8 k.p0) := (cell_of_row _ _ _ _ _ _ R0.out).trans rfl
  have a7 : (w.alloc (.cells k.cells 27)).cell? ⟨w.heap.size, 7, none⟩ = some (.int .u8 k.p1) := (cell_of_row _ _ _ _ _ _ R0.out).trans rfl
  have a8 : (w.alloc (.cells k.cells 27)).cell? ⟨w.heap.size, 8, none⟩ = some (.int .u8 k.p2) := (cell_of_row _ _ _ _ _ _ R0.out).trans rfl
  have a9 : (w.alloc (.cells k.cells 27)).cell? ⟨w.heap.size, 9, none⟩ = some (.int .u8 k.p3) := (cell_of_row _ _ _ _ _ _ R0.out).trans rfl
  have a10 : (w.alloc (.cells k.cells 27)).cell? ⟨w.heap.size, 10, none⟩ = some (.int .u8 k.p4) := (cell_of_row _ _ _ _ _ _ R0.out).trans rfl
  have a11 : (w.alloc (.cells k.cells 27)).cell? ⟨w.heap.size, 11, none⟩ = some (.int .u8 k.p5) := (cell_of_row _ _ _ _ _ _ R0.out).trans rfl
  have s12 : (w.alloc (.cells k.cells 27)).cell? ⟨w.heap.size, 12, none⟩ = some (.int .u8 k.st) := (cell_of_row _ _ _ _ _ _ R0.out).trans rfl
  have s13 : (w.alloc (.cells k.cells 27)).cell? ⟨w.heap.size, 13, none⟩ = some (.int .i64 k.id) := (cell_of_row _ _ _ _ _ _ R0.out).trans rfl
  have s14 : (w.alloc (.cells k.cells 27)).cell? ⟨w.heap.size, 14, none⟩ = some (.int .i64 k.ot) := (cell_of_row _ _ _ _ _ _ R0.out).trans rfl
  have s15 : (w.alloc (.cells k.cells 27)).cell? ⟨w.heap.size, 15, none⟩ = some (.int .i64 k.tr) := (cell_of_row _ _ _ _ _ _ R0.out).trans rfl
  have s16 : (w.alloc (.cells k.cells 27)).cell? ⟨w.heap.size, 16, none⟩ = some (.int .i64 k.du) := (cell_of_row _ _ _ _ _ _ R0.out).trans rfl
  have HB := Lib.hid (show Below w.heap.size w (w.alloc (.cells k.cells 27)) from below_more (Below.refl _ _) _)
  have HI := Lib.hid (link_info2 k)
  have dg0 : decide (k.id < 1) = true := by simp; omega
  rw [hs] at s12
  clear hs
  go_enter Try.func32, Try.ntmps32
  go_wp2_with (first
    | (with_reducible refine wpList_load_row rfl 27 (.tmp 1) rfl w.heap.size rfl 27 k.cells (0, 0) _ R0.out Try.underlying27 rfl HI.out ?_)
    | ((with_reducible refine wpList_load_subG ?_ 27 (.tmp 1) rfl w.heap.size 0 rfl k.cells _ (range_row R0.out) Try.underlying27 rfl HI.out ?_); (as_aux_lemma => kernel_rfl))
    | (go_at_call 51; (with_reducible refine (KN.out _).mono ?_); rintro e w' ⟨rfl, hb⟩; replace R0 := Lib.hid (row_below hb R0.out); replace HB := Lib.hid (below_step HB.out hb); replace s12 := below_kept hb s12; replace s14 := below_kept hb s14; replace s15 := below_kept hb s15; replace s16 := below_kept hb s16; clear hb)
    | (go_at_call 46; (with_reducible refine (KW.out _).mono ?_); rintro e w' ⟨rfl, hb⟩; replace R0 := Lib.hid (row_below hb R0.out); replace HB := Lib.hid (below_step HB.out hb); replace s12 := below_kept hb s12; replace s14 := below_kept hb s14; replace s15 := below_kept hb s15; replace s16 := below_kept hb s16; clear hb))
  go_ret
  exact ⟨rfl, HB.out⟩
set_option maxHeartbeats 2000000 in
theorem rc_1_1 (k : Lk) (hB : k.By) (hs : k.st = 1) (hsame : k.same = false) (g0 : 1 ≤ k.id) (g1 : 65535 < k.id) (w : World) : Calls Try.prog 32 #[.agg k.cells] w fun e w' => e = .returned (.int .i64 8) ∧ Below w.heap.size w w' := by
  have KN := Lib.hid (fun W => show Calls Try.prog 51 #[.agg k.cells] W (fun e w' => e = .returned (.bool false) ∧ Below W.heap.size W w') from by have h := known_any k W; rw [show knownB k = false by simp only [knownB, hs]; rfl] at h; exact h)
  have KW := Lib.hid (fun W => show Calls Try.prog 46 #[.agg k.cells] W (fun e w' => e = .returned (.bool true) ∧ Below W.heap.size W w') from by have h := waits_any k W; rw [show waitsB k = true by simp only [waitsB, hs]; rfl] at h; exact h)
  have E := eql_addr k.o0 k.o1 k.o2 k.o3 k.o4 k.o5 k.p0 k.p1 k.p2 k.p3 k.p4 k.p5 hB.o0 hB.o1 hB.o2 hB.o3 hB.o4 hB.o5 hB.p0 hB.p1 hB.p2 hB.p3 hB.p4 hB.p5
  rw [show addrB k.o0 k.o1 k.o2 k.o3 k.o4 k.o5 k.p0 k.p1 k.p2 k.p3 k.p4 k.p5 = false from hsame] at E
  clear hsame hB
  have R0 := Lib.hid (fr_rows1 w (.cells k.cells 27))
  have a0 : (w.alloc (.cells k.cells 27)).cell? ⟨w.heap.size, 0, none⟩ = some (.int .u8 k.o0) := (cell_of_row _ _ _ _ _ _ R0.out).trans rfl
  have a1 : (w.alloc (.cells k.cells 27)).cell? ⟨w.heap.size, 1, none⟩ = some (.int .u8 k.o1) := (cell_of_row _ _ _ _ _ _ R0.out).trans rfl
  have a2 : (w.alloc (.cells k.cells 27)).cell? ⟨w.heap.size, 2, none⟩ = some (.int .u8 k.o2) := (cell_of_row _ _ _ _ _ _ R0.out).trans rfl
  have a3 : (w.alloc (.cells k.cells 27)).cell? ⟨w.heap.size, 3, none⟩ = some (.int .u8 k.o3) := (cell_of_row _ _ _ _ _ _ R0.out).trans rfl
  have a4 : (w.alloc (.cells k.cells 27)).cell? ⟨w.heap.size, 4, none⟩ = some (.int .u8 k.o4) := (cell_of_row _ _ _ _ _ _ R0.out).trans rfl
  have a5 : (w.alloc (.cells k.cells 27)).cell? ⟨w.heap.size, 5, none⟩ = some (.int .u8 k.o5) := (cell_of_row _ _ _ _ _ _ R0.out).trans rfl
  have a6 : (w.alloc (.cells k.cells 27)).cell? ⟨w.heap.size, 6, none⟩ = some (.int .u8 k.p0) := (cell_of_row _ _ _ _ _ _ R0.out).trans rfl
  have a7 : (w.alloc (.cells k.cells 27)).cell? ⟨w.heap.size, 7, none⟩ = some (.int .u8 k.p1) := (cell_of_row _ _ _ _ _ _ R0.out).trans rfl
  have a8 : (w.alloc (.cells k.cells 27)).cell? ⟨w.heap.size, 8, none⟩ = some (.int .u8 k.p2) := (cell_of_row _ _ _ _ _ _ R0.out).trans rfl
  have a9 : (w.alloc (.cells k.cells 27)).cell? ⟨w.heap.size, 9, none⟩ = some (.int .u8 k.p3) := (cell_of_row _ _ _ _ _ _ R0.out).trans rfl
  have a10 : (w.alloc (.cells k.cells 27)).cell? ⟨w.heap.size, 10, none⟩ = some (.int .u8 k.p4) := (cell_of_row _ _ _ _ _ _ R0.out).trans rfl
  have a11 : (w.alloc (.cells k.cells 27)).cell? ⟨w.heap.size, 11, none⟩ = some (.int .u8 k.p5) := (cell_of_row _ _ _ _ _ _ R0.out).trans rfl
  have s12 : (w.alloc (.cells k.cells 27)).cell? ⟨w.heap.size, 12, none⟩ = some (.int .u8 k.st) := (cell_of_row _ _ _ _ _ _ R0.out).trans rfl
  have s13 : (w.alloc (.cells k.cells 27)).cell? ⟨w.heap.size, 13, none⟩ = some (.int .i64 k.id) := (cell_of_row _ _ _ _ _ _ R0.out).trans rfl
  have s14 : (w.alloc (.cells k.cells 27)).cell? ⟨w.heap.size, 14, none⟩ = some (.int .i64 k.ot) := (cell_of_row _ _ _ _ _ _ R0.out).trans rfl
  have s15 : (w.alloc (.cells k.cells 27)).cell? ⟨w.heap.size, 15, none⟩ = some (.int .i64 k.tr) := (cell_of_row _ _ _ _ _ _ R0.out).trans rfl
  have s16 : (w.alloc (.cells k.cells 27)).cell? ⟨w.heap.size, 16, none⟩ = some (.int .i64 k.du) := (cell_of_row _ _ _ _ _ _ R0.out).trans rfl
  have HB := Lib.hid (show Below w.heap.size w (w.alloc (.cells k.cells 27)) from below_more (Below.refl _ _) _)
  have HI := Lib.hid (link_info2 k)
  have dg0 : decide (k.id < 1) = false := by simp; omega
  have dg1 : decide (65535 < k.id) = true := by simp; omega
  rw [hs] at s12
  clear hs
  go_enter Try.func32, Try.ntmps32
  go_wp2_with (first
    | (with_reducible refine wpList_load_row rfl 27 (.tmp 1) rfl w.heap.size rfl 27 k.cells (0, 0) _ R0.out Try.underlying27 rfl HI.out ?_)
    | ((with_reducible refine wpList_load_subG ?_ 27 (.tmp 1) rfl w.heap.size 0 rfl k.cells _ (range_row R0.out) Try.underlying27 rfl HI.out ?_); (as_aux_lemma => kernel_rfl))
    | (go_at_call 51; (with_reducible refine (KN.out _).mono ?_); rintro e w' ⟨rfl, hb⟩; replace R0 := Lib.hid (row_below hb R0.out); replace HB := Lib.hid (below_step HB.out hb); replace s12 := below_kept hb s12; replace s14 := below_kept hb s14; replace s15 := below_kept hb s15; replace s16 := below_kept hb s16; clear hb)
    | (go_at_call 46; (with_reducible refine (KW.out _).mono ?_); rintro e w' ⟨rfl, hb⟩; replace R0 := Lib.hid (row_below hb R0.out); replace HB := Lib.hid (below_step HB.out hb); replace s12 := below_kept hb s12; replace s14 := below_kept hb s14; replace s15 := below_kept hb s15; replace s16 := below_kept hb s16; clear hb))
  go_ret
  exact ⟨rfl, HB.out⟩
set_option maxHeartbeats 2000000 in
theorem rc_1_2 (k : Lk) (hB : k.By) (hs : k.st = 1) (hsame : k.same = false) (g0 : 1 ≤ k.id) (g1 : k.id ≤ 65535) (g2 : k.ot < 0) (w : World) : Calls Try.prog 32 #[.agg k.cells] w fun e w' => e = .returned (.int .i64 8) ∧ Below w.heap.size w w' := by
  have KN := Lib.hid (fun W => show Calls Try.prog 51 #[.agg k.cells] W (fun e w' => e = .returned (.bool false) ∧ Below W.heap.size W w') from by have h := known_any k W; rw [show knownB k = false by simp only [knownB, hs]; rfl] at h; exact h)
  have KW := Lib.hid (fun W => show Calls Try.prog 46 #[.agg k.cells] W (fun e w' => e = .returned (.bool true) ∧ Below W.heap.size W w') from by have h := waits_any k W; rw [show waitsB k = true by simp only [waitsB, hs]; rfl] at h; exact h)
  have E := eql_addr k.o0 k.o1 k.o2 k.o3 k.o4 k.o5 k.p0 k.p1 k.p2 k.p3 k.p4 k.p5 hB.o0 hB.o1 hB.o2 hB.o3 hB.o4 hB.o5 hB.p0 hB.p1 hB.p2 hB.p3 hB.p4 hB.p5
  rw [show addrB k.o0 k.o1 k.o2 k.o3 k.o4 k.o5 k.p0 k.p1 k.p2 k.p3 k.p4 k.p5 = false from hsame] at E
  clear hsame hB
  have R0 := Lib.hid (fr_rows1 w (.cells k.cells 27))
  have a0 : (w.alloc (.cells k.cells 27)).cell? ⟨w.heap.size, 0, none⟩ = some (.int .u8 k.o0) := (cell_of_row _ _ _ _ _ _ R0.out).trans rfl
  have a1 : (w.alloc (.cells k.cells 27)).cell? ⟨w.heap.size, 1, none⟩ = some (.int .u8 k.o1) := (cell_of_row _ _ _ _ _ _ R0.out).trans rfl
  have a2 : (w.alloc (.cells k.cells 27)).cell? ⟨w.heap.size, 2, none⟩ = some (.int .u8 k.o2) := (cell_of_row _ _ _ _ _ _ R0.out).trans rfl
  have a3 : (w.alloc (.cells k.cells 27)).cell? ⟨w.heap.size, 3, none⟩ = some (.int .u8 k.o3) := (cell_of_row _ _ _ _ _ _ R0.out).trans rfl
  have a4 : (w.alloc (.cells k.cells 27)).cell? ⟨w.heap.size, 4, none⟩ = some (.int .u8 k.o4) := (cell_of_row _ _ _ _ _ _ R0.out).trans rfl
  have a5 : (w.alloc (.cells k.cells 27)).cell? ⟨w.heap.size, 5, none⟩ = some (.int .u8 k.o5) := (cell_of_row _ _ _ _ _ _ R0.out).trans rfl
  have a6 : (w.alloc (.cells k.cells 27)).cell? ⟨w.heap.size, 6, none⟩ = some (.int .u8 k.p0) := (cell_of_row _ _ _ _ _ _ R0.out).trans rfl
  have a7 : (w.alloc (.cells k.cells 27)).cell? ⟨w.heap.size, 7, none⟩ = some (.int .u8 k.p1) := (cell_of_row _ _ _ _ _ _ R0.out).trans rfl
  have a8 : (w.alloc (.cells k.cells 27)).cell? ⟨w.heap.size, 8, none⟩ = some (.int .u8 k.p2) := (cell_of_row _ _ _ _ _ _ R0.out).trans rfl
  have a9 : (w.alloc (.cells k.cells 27)).cell? ⟨w.heap.size, 9, none⟩ = some (.int .u8 k.p3) := (cell_of_row _ _ _ _ _ _ R0.out).trans rfl
  have a10 : (w.alloc (.cells k.cells 27)).cell? ⟨w.heap.size, 10, none⟩ = some (.int .u8 k.p4) := (cell_of_row _ _ _ _ _ _ R0.out).trans rfl
  have a11 : (w.alloc (.cells k.cells 27)).cell? ⟨w.heap.size, 11, none⟩ = some (.int .u8 k.p5) := (cell_of_row _ _ _ _ _ _ R0.out).trans rfl
  have s12 : (w.alloc (.cells k.cells 27)).cell? ⟨w.heap.size, 12, none⟩ = some (.int .u8 k.st) := (cell_of_row _ _ _ _ _ _ R0.out).trans rfl
  have s13 : (w.alloc (.cells k.cells 27)).cell? ⟨w.heap.size, 13, none⟩ = some (.int .i64 k.id) := (cell_of_row _ _ _ _ _ _ R0.out).trans rfl
  have s14 : (w.alloc (.cells k.cells 27)).cell? ⟨w.heap.size, 14, none⟩ = some (.int .i64 k.ot) := (cell_of_row _ _ _ _ _ _ R0.out).trans rfl
  have s15 : (w.alloc (.cells k.cells 27)).cell? ⟨w.heap.size, 15, none⟩ = some (.int .i64 k.tr) := (cell_of_row _ _ _ _ _ _ R0.out).trans rfl
  have s16 : (w.alloc (.cells k.cells 27)).cell? ⟨w.heap.size, 16, none⟩ = some (.int .i64 k.du) := (cell_of_row _ _ _ _ _ _ R0.out).trans rfl
  have HB := Lib.hid (show Below w.heap.size w (w.alloc (.cells k.cells 27)) from below_more (Below.refl _ _) _)
  have HI := Lib.hid (link_info2 k)
  have dg0 : decide (k.id < 1) = false := by simp; omega
  have dg1 : decide (65535 < k.id) = false := by simp; omega
  have dg2 : decide (k.ot < 0) = true := by simp; omega
  rw [hs] at s12
  clear hs
  go_enter Try.func32, Try.ntmps32
  go_wp2_with (first
    | (with_reducible refine wpList_load_row rfl 27 (.tmp 1) rfl w.heap.size rfl 27 k.cells (0, 0) _ R0.out Try.underlying27 rfl HI.out ?_)
    | ((with_reducible refine wpList_load_subG ?_ 27 (.tmp 1) rfl w.heap.size 0 rfl k.cells _ (range_row R0.out) Try.underlying27 rfl HI.out ?_); (as_aux_lemma => kernel_rfl))
    | (go_at_call 51; (with_reducible refine (KN.out _).mono ?_); rintro e w' ⟨rfl, hb⟩; replace R0 := Lib.hid (row_below hb R0.out); replace HB := Lib.hid (below_step HB.out hb); replace s12 := below_kept hb s12; replace s14 := below_kept hb s14; replace s15 := below_kept hb s15; replace s16 := below_kept hb s16; clear hb)
    | (go_at_call 46; (with_reducible refine (KW.out _).mono ?_); rintro e w' ⟨rfl, hb⟩; replace R0 := Lib.hid (row_below hb R0.out); replace HB := Lib.hid (below_step HB.out hb); replace s12 := below_kept hb s12; replace s14 := below_kept hb s14; replace s15 := below_kept hb s15; replace s16 := below_kept hb s16; clear hb))
  go_ret
  exact ⟨rfl, HB.out⟩
set_option maxHeartbeats 2000000 in
theorem rc_1_3 (k : Lk) (hB : k.By) (hs : k.st = 1) (hsame : k.same = false) (g0 : 1 ≤ k.id) (g1 : k.id ≤ 65535) (g2 : 0 ≤ k.ot) (g3 : 65535 < k.ot) (w : World) : Calls Try.prog 32 #[.agg k.cells] w fun e w' => e = .returned (.int .i64 8) ∧ Below w.heap.size w w' := by
  have KN := Lib.hid (fun W => show Calls Try.prog 51 #[.agg k.cells] W (fun e w' => e = .returned (.bool false) ∧ Below W.heap.size W w') from by have h := known_any k W; rw [show knownB k = false by simp only [knownB, hs]; rfl] at h; exact h)
  have KW := Lib.hid (fun W => show Calls Try.prog 46 #[.agg k.cells] W (fun e w' => e = .returned (.bool true) ∧ Below W.heap.size W w') from by have h := waits_any k W; rw [show waitsB k = true by simp only [waitsB, hs]; rfl] at h; exact h)
  have E := eql_addr k.o0 k.o1 k.o2 k.o3 k.o4 k.o5 k.p0 k.p1 k.p2 k.p3 k.p4 k.p5 hB.o0 hB.o1 hB.o2 hB.o3 hB.o4 hB.o5 hB.p0 hB.p1 hB.p2 hB.p3 hB.p4 hB.p5
  rw [show addrB k.o0 k.o1 k.o2 k.o3 k.o4 k.o5 k.p0 k.p1 k.p2 k.p3 k.p4 k.p5 = false from hsame] at E
  clear hsame hB
  have R0 := Lib.hid (fr_rows1 w (.cells k.cells 27))
  have a0 : (w.alloc (.cells k.cells 27)).cell? ⟨w.heap.size, 0, none⟩ = some (.int .u8 k.o0) := (cell_of_row _ _ _ _ _ _ R0.out).trans rfl
  have a1 : (w.alloc (.cells k.cells 27)).cell? ⟨w.heap.size, 1, none⟩ = some (.int .u8 k.o1) := (cell_of_row _ _ _ _ _ _ R0.out).trans rfl
  have a2 : (w.alloc (.cells k.cells 27)).cell? ⟨w.heap.size, 2, none⟩ = some (.int .u8 k.o2) := (cell_of_row _ _ _ _ _ _ R0.out).trans rfl
  have a3 : (w.alloc (.cells k.cells 27)).cell? ⟨w.heap.size, 3, none⟩ = some (.int .u8 k.o3) := (cell_of_row _ _ _ _ _ _ R0.out).trans rfl
  have a4 : (w.alloc (.cells k.cells 27)).cell? ⟨w.heap.size, 4, none⟩ = some (.int .u8 k.o4) := (cell_of_row _ _ _ _ _ _ R0.out).trans rfl
  have a5 : (w.alloc (.cells k.cells 27)).cell? ⟨w.heap.size, 5, none⟩ = some (.int .u8 k.o5) := (cell_of_row _ _ _ _ _ _ R0.out).trans rfl
  have a6 : (w.alloc (.cells k.cells 27)).cell? ⟨w.heap.size, 6, none⟩ = some (.int .u8 k.p0) := (cell_of_row _ _ _ _ _ _ R0.out).trans rfl
  have a7 : (w.alloc (.cells k.cells 27)).cell? ⟨w.heap.size, 7, none⟩ = some (.int .u8 k.p1) := (cell_of_row _ _ _ _ _ _ R0.out).trans rfl
  have a8 : (w.alloc (.cells k.cells 27)).cell? ⟨w.heap.size, 8, none⟩ = some (.int .u8 k.p2) := (cell_of_row _ _ _ _ _ _ R0.out).trans rfl
  have a9 : (w.alloc (.cells k.cells 27)).cell? ⟨w.heap.size, 9, none⟩ = some (.int .u8 k.p3) := (cell_of_row _ _ _ _ _ _ R0.out).trans rfl
  have a10 : (w.alloc (.cells k.cells 27)).cell? ⟨w.heap.size, 10, none⟩ = some (.int .u8 k.p4) := (cell_of_row _ _ _ _ _ _ R0.out).trans rfl
  have a11 : (w.alloc (.cells k.cells 27)).cell? ⟨w.heap.size, 11, none⟩ = some (.int .u8 k.p5) := (cell_of_row _ _ _ _ _ _ R0.out).trans rfl
  have s12 : (w.alloc (.cells k.cells 27)).cell? ⟨w.heap.size, 12, none⟩ = some (.int .u8 k.st) := (cell_of_row _ _ _ _ _ _ R0.out).trans rfl
  have s13 : (w.alloc (.cells k.cells 27)).cell? ⟨w.heap.size, 13, none⟩ = some (.int .i64 k.id) := (cell_of_row _ _ _ _ _ _ R0.out).trans rfl
  have s14 : (w.alloc (.cells k.cells 27)).cell? ⟨w.heap.size, 14, none⟩ = some (.int .i64 k.ot) := (cell_of_row _ _ _ _ _ _ R0.out).trans rfl
  have s15 : (w.alloc (.cells k.cells 27)).cell? ⟨w.heap.size, 15, none⟩ = some (.int .i64 k.tr) := (cell_of_row _ _ _ _ _ _ R0.out).trans rfl
  have s16 : (w.alloc (.cells k.cells 27)).cell? ⟨w.heap.size, 16, none⟩ = some (.int .i64 k.du) := (cell_of_row _ _ _ _ _ _ R0.out).trans rfl
  have HB := Lib.hid (show Below w.heap.size w (w.alloc (.cells k.cells 27)) from below_more (Below.refl _ _) _)
  have HI := Lib.hid (link_info2 k)
  have dg0 : decide (k.id < 1) = false := by simp; omega
  have dg1 : decide (65535 < k.id) = false := by simp; omega
  have dg2 : decide (k.ot < 0) = false := by simp; omega
  have dg3 : decide (65535 < k.ot) = true := by simp; omega
  rw [hs] at s12
  clear hs
  go_enter Try.func32, Try.ntmps32
  go_wp2_with (first
    | (with_reducible refine wpList_load_row rfl 27 (.tmp 1) rfl w.heap.size rfl 27 k.cells (0, 0) _ R0.out Try.underlying27 rfl HI.out ?_)
    | ((with_reducible refine wpList_load_subG ?_ 27 (.tmp 1) rfl w.heap.size 0 rfl k.cells _ (range_row R0.out) Try.underlying27 rfl HI.out ?_); (as_aux_lemma => kernel_rfl))
    | (go_at_call 51; (with_reducible refine (KN.out _).mono ?_); rintro e w' ⟨rfl, hb⟩; replace R0 := Lib.hid (row_below hb R0.out); replace HB := Lib.hid (below_step HB.out hb); replace s12 := below_kept hb s12; replace s14 := below_kept hb s14; replace s15 := below_kept hb s15; replace s16 := below_kept hb s16; clear hb)
    | (go_at_call 46; (with_reducible refine (KW.out _).mono ?_); rintro e w' ⟨rfl, hb⟩; replace R0 := Lib.hid (row_below hb R0.out); replace HB := Lib.hid (below_step HB.out hb); replace s12 := below_kept hb s12; replace s14 := below_kept hb s14; replace s15 := below_kept hb s15; replace s16 := below_kept hb s16; clear hb))
  go_ret
  exact ⟨rfl, HB.out⟩
set_option maxHeartbeats 2000000 in
theorem rc_1_4 (k : Lk) (hB : k.By) (hs : k.st = 1) (hsame : k.same = false) (g0 : 1 ≤ k.id) (g1 : k.id ≤ 65535) (g2 : 0 ≤ k.ot) (g3 : k.ot ≤ 65535) (g4 : k.ot ≠ 0) (w : World) : Calls Try.prog 32 #[.agg k.cells] w fun e w' => e = .returned (.int .i64 8) ∧ Below w.heap.size w w' := by
  have KN := Lib.hid (fun W => show Calls Try.prog 51 #[.agg k.cells] W (fun e w' => e = .returned (.bool false) ∧ Below W.heap.size W w') from by have h := known_any k W; rw [show knownB k = false by simp only [knownB, hs]; rfl] at h; exact h)
  have KW := Lib.hid (fun W => show Calls Try.prog 46 #[.agg k.cells] W (fun e w' => e = .returned (.bool true) ∧ Below W.heap.size W w') from by have h := waits_any k W; rw [show waitsB k = true by simp only [waitsB, hs]; rfl] at h; exact h)
  have E := eql_addr k.o0 k.o1 k.o2 k.o3 k.o4 k.o5 k.p0 k.p1 k.p2 k.p3 k.p4 k.p5 hB.o0 hB.o1 hB.o2 hB.o3 hB.o4 hB.o5 hB.p0 hB.p1 hB.p2 hB.p3 hB.p4 hB.p5
  rw [show addrB k.o0 k.o1 k.o2 k.o3 k.o4 k.o5 k.p0 k.p1 k.p2 k.p3 k.p4 k.p5 = false from hsame] at E
  clear hsame hB
  have R0 := Lib.hid (fr_rows1 w (.cells k.cells 27))
  have a0 : (w.alloc (.cells k.cells 27)).cell? ⟨w.heap.size, 0, none⟩ = some (.int .u8 k.o0) := (cell_of_row _ _ _ _ _ _ R0.out).trans rfl
  have a1 : (w.alloc (.cells k.cells 27)).cell? ⟨w.heap.size, 1, none⟩ = some (.int .u8 k.o1) := (cell_of_row _ _ _ _ _ _ R0.out).trans rfl
  have a2 : (w.alloc (.cells k.cells 27)).cell? ⟨w.heap.size, 2, none⟩ = some (.int .u8 k.o2) := (cell_of_row _ _ _ _ _ _ R0.out).trans rfl
  have a3 : (w.alloc (.cells k.cells 27)).cell? ⟨w.heap.size, 3, none⟩ = some (.int .u8 k.o3) := (cell_of_row _ _ _ _ _ _ R0.out).trans rfl
  have a4 : (w.alloc (.cells k.cells 27)).cell? ⟨w.heap.size, 4, none⟩ = some (.int .u8 k.o4) := (cell_of_row _ _ _ _ _ _ R0.out).trans rfl
  have a5 : (w.alloc (.cells k.cells 27)).cell? ⟨w.heap.size, 5, none⟩ = some (.int .u8 k.o5) := (cell_of_row _ _ _ _ _ _ R0.out).trans rfl
  have a6 : (w.alloc (.cells k.cells 27)).cell? ⟨w.heap.size, 6, none⟩ = some (.int .u8 k.p0) := (cell_of_row _ _ _ _ _ _ R0.out).trans rfl
  have a7 : (w.alloc (.cells k.cells 27)).cell? ⟨w.heap.size, 7, none⟩ = some (.int .u8 k.p1) := (cell_of_row _ _ _ _ _ _ R0.out).trans rfl
  have a8 : (w.alloc (.cells k.cells 27)).cell? ⟨w.heap.size, 8, none⟩ = some (.int .u8 k.p2) := (cell_of_row _ _ _ _ _ _ R0.out).trans rfl
  have a9 : (w.alloc (.cells k.cells 27)).cell? ⟨w.heap.size, 9, none⟩ = some (.int .u8 k.p3) := (cell_of_row _ _ _ _ _ _ R0.out).trans rfl
  have a10 : (w.alloc (.cells k.cells 27)).cell? ⟨w.heap.size, 10, none⟩ = some (.int .u8 k.p4) := (cell_of_row _ _ _ _ _ _ R0.out).trans rfl
  have a11 : (w.alloc (.cells k.cells 27)).cell? ⟨w.heap.size, 11, none⟩ = some (.int .u8 k.p5) := (cell_of_row _ _ _ _ _ _ R0.out).trans rfl
  have s12 : (w.alloc (.cells k.cells 27)).cell? ⟨w.heap.size, 12, none⟩ = some (.int .u8 k.st) := (cell_of_row _ _ _ _ _ _ R0.out).trans rfl
  have s13 : (w.alloc (.cells k.cells 27)).cell? ⟨w.heap.size, 13, none⟩ = some (.int .i64 k.id) := (cell_of_row _ _ _ _ _ _ R0.out).trans rfl
  have s14 : (w.alloc (.cells k.cells 27)).cell? ⟨w.heap.size, 14, none⟩ = some (.int .i64 k.ot) := (cell_of_row _ _ _ _ _ _ R0.out).trans rfl
  have s15 : (w.alloc (.cells k.cells 27)).cell? ⟨w.heap.size, 15, none⟩ = some (.int .i64 k.tr) := (cell_of_row _ _ _ _ _ _ R0.out).trans rfl
  have s16 : (w.alloc (.cells k.cells 27)).cell? ⟨w.heap.size, 16, none⟩ = some (.int .i64 k.du) := (cell_of_row _ _ _ _ _ _ R0.out).trans rfl
  have HB := Lib.hid (show Below w.heap.size w (w.alloc (.cells k.cells 27)) from below_more (Below.refl _ _) _)
  have HI := Lib.hid (link_info2 k)
  have dg0 : decide (k.id < 1) = false := by simp; omega
  have dg1 : decide (65535 < k.id) = false := by simp; omega
  have dg2 : decide (k.ot < 0) = false := by simp; omega
  have dg3 : decide (65535 < k.ot) = false := by simp; omega
  have dg4 : (k.ot == 0) = false := by simpa using g4
  have eg4 : (k.ot != 0) = true := by simpa using g4
  rw [hs] at s12
  clear hs
  go_enter Try.func32, Try.ntmps32
  go_wp2_with (first
    | (with_reducible refine wpList_load_row rfl 27 (.tmp 1) rfl w.heap.size rfl 27 k.cells (0, 0) _ R0.out Try.underlying27 rfl HI.out ?_)
    | ((with_reducible refine wpList_load_subG ?_ 27 (.tmp 1) rfl w.heap.size 0 rfl k.cells _ (range_row R0.out) Try.underlying27 rfl HI.out ?_); (as_aux_lemma => kernel_rfl))
    | (go_at_call 51; (with_reducible refine (KN.out _).mono ?_); rintro e w' ⟨rfl, hb⟩; replace R0 := Lib.hid (row_below hb R0.out); replace HB := Lib.hid (below_step HB.out hb); replace s12 := below_kept hb s12; replace s14 := below_kept hb s14; replace s15 := below_kept hb s15; replace s16 := below_kept hb s16; clear hb)
    | (go_at_call 46; (with_reducible refine (KW.out _).mono ?_); rintro e w' ⟨rfl, hb⟩; replace R0 := Lib.hid (row_below hb R0.out); replace HB := Lib.hid (below_step HB.out hb); replace s12 := below_kept hb s12; replace s14 := below_kept hb s14; replace s15 := below_kept hb s15; replace s16 := below_kept hb s16; clear hb))
  go_ret
  exact ⟨rfl, HB.out⟩
set_option maxHeartbeats 2000000 in
theorem rc_1_5 (k : Lk) (hB : k.By) (hs : k.st = 1) (hsame : k.same = false) (g0 : 1 ≤ k.id) (g1 : k.id ≤ 65535) (g2 : 0 ≤ k.ot) (g3 : k.ot ≤ 65535) (g4 : k.ot = 0) (g5 : k.tr < 1) (w : World) : Calls Try.prog 32 #[.agg k.cells] w fun e w' => e = .returned (.int .i64 8) ∧ Below w.heap.size w w' := by
  have KN := Lib.hid (fun W => show Calls Try.prog 51 #[.agg k.cells] W (fun e w' => e = .returned (.bool false) ∧ Below W.heap.size W w') from by have h := known_any k W; rw [show knownB k = false by simp only [knownB, hs]; rfl] at h; exact h)
  have KW := Lib.hid (fun W => show Calls Try.prog 46 #[.agg k.cells] W (fun e w' => e = .returned (.bool true) ∧ Below W.heap.size W w') from by have h := waits_any k W; rw [show waitsB k = true by simp only [waitsB, hs]; rfl] at h; exact h)
  have E := eql_addr k.o0 k.o1 k.o2 k.o3 k.o4 k.o5 k.p0 k.p1 k.p2 k.p3 k.p4 k.p5 hB.o0 hB.o1 hB.o2 hB.o3 hB.o4 hB.o5 hB.p0 hB.p1 hB.p2 hB.p3 hB.p4 hB.p5
  rw [show addrB k.o0 k.o1 k.o2 k.o3 k.o4 k.o5 k.p0 k.p1 k.p2 k.p3 k.p4 k.p5 = false from hsame] at E
  clear hsame hB
  have R0 := Lib.hid (fr_rows1 w (.cells k.cells 27))
  have a0 : (w.alloc (.cells k.cells 27)).cell? ⟨w.heap.size, 0, none⟩ = some (.int .u8 k.o0) := (cell_of_row _ _ _ _ _ _ R0.out).trans rfl
  have a1 : (w.alloc (.cells k.cells 27)).cell? ⟨w.heap.size, 1, none⟩ = some (.int .u8 k.o1) := (cell_of_row _ _ _ _ _ _ R0.out).trans rfl
  have a2 : (w.alloc (.cells k.cells 27)).cell? ⟨w.heap.size, 2, none⟩ = some (.int .u8 k.o2) := (cell_of_row _ _ _ _ _ _ R0.out).trans rfl
  have a3 : (w.alloc (.cells k.cells 27)).cell? ⟨w.heap.size, 3, none⟩ = some (.int .u8 k.o3) := (cell_of_row _ _ _ _ _ _ R0.out).trans rfl
  have a4 : (w.alloc (.cells k.cells 27)).cell? ⟨w.heap.size, 4, none⟩ = some (.int .u8 k.o4) := (cell_of_row _ _ _ _ _ _ R0.out).trans rfl
  have a5 : (w.alloc (.cells k.cells 27)).cell? ⟨w.heap.size, 5, none⟩ = some (.int .u8 k.o5) := (cell_of_row _ _ _ _ _ _ R0.out).trans rfl
  have a6 : (w.alloc (.cells k.cells 27)).cell? ⟨w.heap.size, 6, none⟩ = some (.int .u8 k.p0) := (cell_of_row _ _ _ _ _ _ R0.out).trans rfl
  have a7 : (w.alloc (.cells k.cells 27)).cell? ⟨w.heap.size, 7, none⟩ = some (.int .u8 k.p1) := (cell_of_row _ _ _ _ _ _ R0.out).trans rfl
  have a8 : (w.alloc (.cells k.cells 27)).cell? ⟨w.heap.size, 8, none⟩ = some (.int .u8 k.p2) := (cell_of_row _ _ _ _ _ _ R0.out).trans rfl
  have a9 : (w.alloc (.cells k.cells 27)).cell? ⟨w.heap.size, 9, none⟩ = some (.int .u8 k.p3) := (cell_of_row _ _ _ _ _ _ R0.out).trans rfl
  have a10 : (w.alloc (.cells k.cells 27)).cell? ⟨w.heap.size, 10, none⟩ = some (.int .u8 k.p4) := (cell_of_row _ _ _ _ _ _ R0.out).trans rfl
  have a11 : (w.alloc (.cells k.cells 27)).cell? ⟨w.heap.size, 11, none⟩ = some (.int .u8 k.p5) := (cell_of_row _ _ _ _ _ _ R0.out).trans rfl
  have s12 : (w.alloc (.cells k.cells 27)).cell? ⟨w.heap.size, 12, none⟩ = some (.int .u8 k.st) := (cell_of_row _ _ _ _ _ _ R0.out).trans rfl
  have s13 : (w.alloc (.cells k.cells 27)).cell? ⟨w.heap.size, 13, none⟩ = some (.int .i64 k.id) := (cell_of_row _ _ _ _ _ _ R0.out).trans rfl
  have s14 : (w.alloc (.cells k.cells 27)).cell? ⟨w.heap.size, 14, none⟩ = some (.int .i64 k.ot) := (cell_of_row _ _ _ _ _ _ R0.out).trans rfl
  have s15 : (w.alloc (.cells k.cells 27)).cell? ⟨w.heap.size, 15, none⟩ = some (.int .i64 k.tr) := (cell_of_row _ _ _ _ _ _ R0.out).trans rfl
  have s16 : (w.alloc (.cells k.cells 27)).cell? ⟨w.heap.size, 16, none⟩ = some (.int .i64 k.du) := (cell_of_row _ _ _ _ _ _ R0.out).trans rfl
  have HB := Lib.hid (show Below w.heap.size w (w.alloc (.cells k.cells 27)) from below_more (Below.refl _ _) _)
  have HI := Lib.hid (link_info2 k)
  have dg0 : decide (k.id < 1) = false := by simp; omega
  have dg1 : decide (65535 < k.id) = false := by simp; omega
  have dg2 : decide (k.ot < 0) = false := by simp; omega
  have dg3 : decide (65535 < k.ot) = false := by simp; omega
  have dg4 : (k.ot == 0) = true := by simpa using g4
  have eg4 : (k.ot != 0) = false := by simpa using g4
  have dg5 : decide (k.tr < 1) = true := by simp; omega
  rw [hs] at s12
  clear hs
  go_enter Try.func32, Try.ntmps32
  go_wp2_with (first
    | (with_reducible refine wpList_load_row rfl 27 (.tmp 1) rfl w.heap.size rfl 27 k.cells (0, 0) _ R0.out Try.underlying27 rfl HI.out ?_)
    | ((with_reducible refine wpList_load_subG ?_ 27 (.tmp 1) rfl w.heap.size 0 rfl k.cells _ (range_row R0.out) Try.underlying27 rfl HI.out ?_); (as_aux_lemma => kernel_rfl))
    | (go_at_call 51; (with_reducible refine (KN.out _).mono ?_); rintro e w' ⟨rfl, hb⟩; replace R0 := Lib.hid (row_below hb R0.out); replace HB := Lib.hid (below_step HB.out hb); replace s12 := below_kept hb s12; replace s14 := below_kept hb s14; replace s15 := below_kept hb s15; replace s16 := below_kept hb s16; clear hb)
    | (go_at_call 46; (with_reducible refine (KW.out _).mono ?_); rintro e w' ⟨rfl, hb⟩; replace R0 := Lib.hid (row_below hb R0.out); replace HB := Lib.hid (below_step HB.out hb); replace s12 := below_kept hb s12; replace s14 := below_kept hb s14; replace s15 := below_kept hb s15; replace s16 := below_kept hb s16; clear hb))
  go_ret
  exact ⟨rfl, HB.out⟩
set_option maxHeartbeats 2000000 in
theorem rc_1_6 (k : Lk) (hB : k.By) (hs : k.st = 1) (hsame : k.same = false) (g0 : 1 ≤ k.id) (g1 : k.id ≤ 65535) (g2 : 0 ≤ k.ot) (g3 : k.ot ≤ 65535) (g4 : k.ot = 0) (g5 : 1 ≤ k.tr) (g6 : 3 < k.tr) (w : World) : Calls Try.prog 32 #[.agg k.cells] w fun e w' => e = .returned (.int .i64 8) ∧ Below w.heap.size w w' := by
  have KN := Lib.hid (fun W => show Calls Try.prog 51 #[.agg k.cells] W (fun e w' => e = .returned (.bool false) ∧ Below W.heap.size W w') from by have h := known_any k W; rw [show knownB k = false by simp only [knownB, hs]; rfl] at h; exact h)
  have KW := Lib.hid (fun W => show Calls Try.prog 46 #[.agg k.cells] W (fun e w' => e = .returned (.bool true) ∧ Below W.heap.size W w') from by have h := waits_any k W; rw [show waitsB k = true by simp only [waitsB, hs]; rfl] at h; exact h)
  have E := eql_addr k.o0 k.o1 k.o2 k.o3 k.o4 k.o5 k.p0 k.p1 k.p2 k.p3 k.p4 k.p5 hB.o0 hB.o1 hB.o2 hB.o3 hB.o4 hB.o5 hB.p0 hB.p1 hB.p2 hB.p3 hB.p4 hB.p5
  rw [show addrB k.o0 k.o1 k.o2 k.o3 k.o4 k.o5 k.p0 k.p1 k.p2 k.p3 k.p4 k.p5 = false from hsame] at E
  clear hsame hB
  have R0 := Lib.hid (fr_rows1 w (.cells k.cells 27))
  have a0 : (w.alloc (.cells k.cells 27)).cell? ⟨w.heap.size, 0, none⟩ = some (.int .u8 k.o0) := (cell_of_row _ _ _ _ _ _ R0.out).trans rfl
  have a1 : (w.alloc (.cells k.cells 27)).cell? ⟨w.heap.size, 1, none⟩ = some (.int .u8 k.o1) := (cell_of_row _ _ _ _ _ _ R0.out).trans rfl
  have a2 : (w.alloc (.cells k.cells 27)).cell? ⟨w.heap.size, 2, none⟩ = some (.int .u8 k.o2) := (cell_of_row _ _ _ _ _ _ R0.out).trans rfl
  have a3 : (w.alloc (.cells k.cells 27)).cell? ⟨w.heap.size, 3, none⟩ = some (.int .u8 k.o3) := (cell_of_row _ _ _ _ _ _ R0.out).trans rfl
  have a4 : (w.alloc (.cells k.cells 27)).cell? ⟨w.heap.size, 4, none⟩ = some (.int .u8 k.o4) := (cell_of_row _ _ _ _ _ _ R0.out).trans rfl
  have a5 : (w.alloc (.cells k.cells 27)).cell? ⟨w.heap.size, 5, none⟩ = some (.int .u8 k.o5) := (cell_of_row _ _ _ _ _ _ R0.out).trans rfl
  have a6 : (w.alloc (.cells k.cells 27)).cell? ⟨w.heap.size, 6, none⟩ = some (.int .u8 k.p0) := (cell_of_row _ _ _ _ _ _ R0.out).trans rfl
  have a7 : (w.alloc (.cells k.cells 27)).cell? ⟨w.heap.size, 7, none⟩ = some (.int .u8 k.p1) := (cell_of_row _ _ _ _ _ _ R0.out).trans rfl
  have a8 : (w.alloc (.cells k.cells 27)).cell? ⟨w.heap.size, 8, none⟩ = some (.int .u8 k.p2) := (cell_of_row _ _ _ _ _ _ R0.out).trans rfl
  have a9 : (w.alloc (.cells k.cells 27)).cell? ⟨w.heap.size, 9, none⟩ = some (.int .u8 k.p3) := (cell_of_row _ _ _ _ _ _ R0.out).trans rfl
  have a10 : (w.alloc (.cells k.cells 27)).cell? ⟨w.heap.size, 10, none⟩ = some (.int .u8 k.p4) := (cell_of_row _ _ _ _ _ _ R0.out).trans rfl
  have a11 : (w.alloc (.cells k.cells 27)).cell? ⟨w.heap.size, 11, none⟩ = some (.int .u8 k.p5) := (cell_of_row _ _ _ _ _ _ R0.out).trans rfl
  have s12 : (w.alloc (.cells k.cells 27)).cell? ⟨w.heap.size, 12, none⟩ = some (.int .u8 k.st) := (cell_of_row _ _ _ _ _ _ R0.out).trans rfl
  have s13 : (w.alloc (.cells k.cells 27)).cell? ⟨w.heap.size, 13, none⟩ = some (.int .i64 k.id) := (cell_of_row _ _ _ _ _ _ R0.out).trans rfl
  have s14 : (w.alloc (.cells k.cells 27)).cell? ⟨w.heap.size, 14, none⟩ = some (.int .i64 k.ot) := (cell_of_row _ _ _ _ _ _ R0.out).trans rfl
  have s15 : (w.alloc (.cells k.cells 27)).cell? ⟨w.heap.size, 15, none⟩ = some (.int .i64 k.tr) := (cell_of_row _ _ _ _ _ _ R0.out).trans rfl
  have s16 : (w.alloc (.cells k.cells 27)).cell? ⟨w.heap.size, 16, none⟩ = some (.int .i64 k.du) := (cell_of_row _ _ _ _ _ _ R0.out).trans rfl
  have HB := Lib.hid (show Below w.heap.size w (w.alloc (.cells k.cells 27)) from below_more (Below.refl _ _) _)
  have HI := Lib.hid (link_info2 k)
  have dg0 : decide (k.id < 1) = false := by simp; omega
  have dg1 : decide (65535 < k.id) = false := by simp; omega
  have dg2 : decide (k.ot < 0) = false := by simp; omega
  have dg3 : decide (65535 < k.ot) = false := by simp; omega
  have dg4 : (k.ot == 0) = true := by simpa using g4
  have eg4 : (k.ot != 0) = false := by simpa using g4
  have dg5 : decide (k.tr < 1) = false := by simp; omega
  have dg6 : decide (3 < k.tr) = true := by simp; omega
  rw [hs] at s12
  clear hs
  go_enter Try.func32, Try.ntmps32
  go_wp2_with (first
    | (with_reducible refine wpList_load_row rfl 27 (.tmp 1) rfl w.heap.size rfl 27 k.cells (0, 0) _ R0.out Try.underlying27 rfl HI.out ?_)
    | ((with_reducible refine wpList_load_subG ?_ 27 (.tmp 1) rfl w.heap.size 0 rfl k.cells _ (range_row R0.out) Try.underlying27 rfl HI.out ?_); (as_aux_lemma => kernel_rfl))
    | (go_at_call 51; (with_reducible refine (KN.out _).mono ?_); rintro e w' ⟨rfl, hb⟩; replace R0 := Lib.hid (row_below hb R0.out); replace HB := Lib.hid (below_step HB.out hb); replace s12 := below_kept hb s12; replace s14 := below_kept hb s14; replace s15 := below_kept hb s15; replace s16 := below_kept hb s16; clear hb)
    | (go_at_call 46; (with_reducible refine (KW.out _).mono ?_); rintro e w' ⟨rfl, hb⟩; replace R0 := Lib.hid (row_below hb R0.out); replace HB := Lib.hid (below_step HB.out hb); replace s12 := below_kept hb s12; replace s14 := below_kept hb s14; replace s15 := below_kept hb s15; replace s16 := below_kept hb s16; clear hb))
  go_ret
  exact ⟨rfl, HB.out⟩
set_option maxHeartbeats 2000000 in
theorem rc_1_7 (k : Lk) (hB : k.By) (hs : k.st = 1) (hsame : k.same = false) (g0 : 1 ≤ k.id) (g1 : k.id ≤ 65535) (g2 : 0 ≤ k.ot) (g3 : k.ot ≤ 65535) (g4 : k.ot = 0) (g5 : 1 ≤ k.tr) (g6 : k.tr ≤ 3) (g7 : k.du < 1) (w : World) : Calls Try.prog 32 #[.agg k.cells] w fun e w' => e = .returned (.int .i64 8) ∧ Below w.heap.size w w' := by
  have KN := Lib.hid (fun W => show Calls Try.prog 51 #[.agg k.cells] W (fun e w' => e = .returned (.bool false) ∧ Below W.heap.size W w') from by have h := known_any k W; rw [show knownB k = false by simp only [knownB, hs]; rfl] at h; exact h)
  have KW := Lib.hid (fun W => show Calls Try.prog 46 #[.agg k.cells] W (fun e w' => e = .returned (.bool true) ∧ Below W.heap.size W w') from by have h := waits_any k W; rw [show waitsB k = true by simp only [waitsB, hs]; rfl] at h; exact h)
  have E := eql_addr k.o0 k.o1 k.o2 k.o3 k.o4 k.o5 k.p0 k.p1 k.p2 k.p3 k.p4 k.p5 hB.o0 hB.o1 hB.o2 hB.o3 hB.o4 hB.o5 hB.p0 hB.p1 hB.p2 hB.p3 hB.p4 hB.p5
  rw [show addrB k.o0 k.o1 k.o2 k.o3 k.o4 k.o5 k.p0 k.p1 k.p2 k.p3 k.p4 k.p5 = false from hsame] at E
  clear hsame hB
  have R0 := Lib.hid (fr_rows1 w (.cells k.cells 27))
  have a0 : (w.alloc (.cells k.cells 27)).cell? ⟨w.heap.size, 0, none⟩ = some (.int .u8 k.o0) := (cell_of_row _ _ _ _ _ _ R0.out).trans rfl
  have a1 : (w.alloc (.cells k.cells 27)).cell? ⟨w.heap.size, 1, none⟩ = some (.int .u8 k.o1) := (cell_of_row _ _ _ _ _ _ R0.out).trans rfl
  have a2 : (w.alloc (.cells k.cells 27)).cell? ⟨w.heap.size, 2, none⟩ = some (.int .u8 k.o2) := (cell_of_row _ _ _ _ _ _ R0.out).trans rfl
  have a3 : (w.alloc (.cells k.cells 27)).cell? ⟨w.heap.size, 3, none⟩ = some (.int .u8 k.o3) := (cell_of_row _ _ _ _ _ _ R0.out).trans rfl
  have a4 : (w.alloc (.cells k.cells 27)).cell? ⟨w.heap.size, 4, none⟩ = some (.int .u8 k.o4) := (cell_of_row _ _ _ _ _ _ R0.out).trans rfl
  have a5 : (w.alloc (.cells k.cells 27)).cell? ⟨w.heap.size, 5, none⟩ = some (.int .u8 k.o5) := (cell_of_row _ _ _ _ _ _ R0.out).trans rfl
  have a6 : (w.alloc (.cells k.cells 27)).cell? ⟨w.heap.size, 6, none⟩ = some (.int .u8 k.p0) := (cell_of_row _ _ _ _ _ _ R0.out).trans rfl
  have a7 : (w.alloc (.cells k.cells 27)).cell? ⟨w.heap.size, 7, none⟩ = some (.int .u8 k.p1) := (cell_of_row _ _ _ _ _ _ R0.out).trans rfl
  have a8 : (w.alloc (.cells k.cells 27)).cell? ⟨w.heap.size, 8, none⟩ = some (.int .u8 k.p2) := (cell_of_row _ _ _ _ _ _ R0.out).trans rfl
  have a9 : (w.alloc (.cells k.cells 27)).cell? ⟨w.heap.size, 9, none⟩ = some (.int .u8 k.p3) := (cell_of_row _ _ _ _ _ _ R0.out).trans rfl
  have a10 : (w.alloc (.cells k.cells 27)).cell? ⟨w.heap.size, 10, none⟩ = some (.int .u8 k.p4) := (cell_of_row _ _ _ _ _ _ R0.out).trans rfl
  have a11 : (w.alloc (.cells k.cells 27)).cell? ⟨w.heap.size, 11, none⟩ = some (.int .u8 k.p5) := (cell_of_row _ _ _ _ _ _ R0.out).trans rfl
  have s12 : (w.alloc (.cells k.cells 27)).cell? ⟨w.heap.size, 12, none⟩ = some (.int .u8 k.st) := (cell_of_row _ _ _ _ _ _ R0.out).trans rfl
  have s13 : (w.alloc (.cells k.cells 27)).cell? ⟨w.heap.size, 13, none⟩ = some (.int .i64 k.id) := (cell_of_row _ _ _ _ _ _ R0.out).trans rfl
  have s14 : (w.alloc (.cells k.cells 27)).cell? ⟨w.heap.size, 14, none⟩ = some (.int .i64 k.ot) := (cell_of_row _ _ _ _ _ _ R0.out).trans rfl
  have s15 : (w.alloc (.cells k.cells 27)).cell? ⟨w.heap.size, 15, none⟩ = some (.int .i64 k.tr) := (cell_of_row _ _ _ _ _ _ R0.out).trans rfl
  have s16 : (w.alloc (.cells k.cells 27)).cell? ⟨w.heap.size, 16, none⟩ = some (.int .i64 k.du) := (cell_of_row _ _ _ _ _ _ R0.out).trans rfl
  have HB := Lib.hid (show Below w.heap.size w (w.alloc (.cells k.cells 27)) from below_more (Below.refl _ _) _)
  have HI := Lib.hid (link_info2 k)
  have dg0 : decide (k.id < 1) = false := by simp; omega
  have dg1 : decide (65535 < k.id) = false := by simp; omega
  have dg2 : decide (k.ot < 0) = false := by simp; omega
  have dg3 : decide (65535 < k.ot) = false := by simp; omega
  have dg4 : (k.ot == 0) = true := by simpa using g4
  have eg4 : (k.ot != 0) = false := by simpa using g4
  have dg5 : decide (k.tr < 1) = false := by simp; omega
  have dg6 : decide (3 < k.tr) = false := by simp; omega
  have dg7 : decide (k.du < 1) = true := by simp; omega
  rw [hs] at s12
  clear hs
  go_enter Try.func32, Try.ntmps32
  go_wp2_with (first
    | (with_reducible refine wpList_load_row rfl 27 (.tmp 1) rfl w.heap.size rfl 27 k.cells (0, 0) _ R0.out Try.underlying27 rfl HI.out ?_)
    | ((with_reducible refine wpList_load_subG ?_ 27 (.tmp 1) rfl w.heap.size 0 rfl k.cells _ (range_row R0.out) Try.underlying27 rfl HI.out ?_); (as_aux_lemma => kernel_rfl))
    | (go_at_call 51; (with_reducible refine (KN.out _).mono ?_); rintro e w' ⟨rfl, hb⟩; replace R0 := Lib.hid (row_below hb R0.out); replace HB := Lib.hid (below_step HB.out hb); replace s12 := below_kept hb s12; replace s14 := below_kept hb s14; replace s15 := below_kept hb s15; replace s16 := below_kept hb s16; clear hb)
    | (go_at_call 46; (with_reducible refine (KW.out _).mono ?_); rintro e w' ⟨rfl, hb⟩; replace R0 := Lib.hid (row_below hb R0.out); replace HB := Lib.hid (below_step HB.out hb); replace s12 := below_kept hb s12; replace s14 := below_kept hb s14; replace s15 := below_kept hb s15; replace s16 := below_kept hb s16; clear hb))
  go_ret
  exact ⟨rfl, HB.out⟩
set_option maxHeartbeats 2000000 in
theorem rc_1_8 (k : Lk) (hB : k.By) (hs : k.st = 1) (hsame : k.same = false) (g0 : 1 ≤ k.id) (g1 : k.id ≤ 65535) (g2 : 0 ≤ k.ot) (g3 : k.ot ≤ 65535) (g4 : k.ot = 0) (g5 : 1 ≤ k.tr) (g6 : k.tr ≤ 3) (g7 : 1 ≤ k.du) (g8 : 1099511667776 < k.du) (w : World) : Calls Try.prog 32 #[.agg k.cells] w fun e w' => e = .returned (.int .i64 8) ∧ Below w.heap.size w w' := by
  have KN := Lib.hid (fun W => show Calls Try.prog 51 #[.agg k.cells] W (fun e w' => e = .returned (.bool false) ∧ Below W.heap.size W w') from by have h := known_any k W; rw [show knownB k = false by simp only [knownB, hs]; rfl] at h; exact h)
  have KW := Lib.hid (fun W => show Calls Try.prog 46 #[.agg k.cells] W (fun e w' => e = .returned (.bool true) ∧ Below W.heap.size W w') from by have h := waits_any k W; rw [show waitsB k = true by simp only [waitsB, hs]; rfl] at h; exact h)
  have E := eql_addr k.o0 k.o1 k.o2 k.o3 k.o4 k.o5 k.p0 k.p1 k.p2 k.p3 k.p4 k.p5 hB.o0 hB.o1 hB.o2 hB.o3 hB.o4 hB.o5 hB.p0 hB.p1 hB.p2 hB.p3 hB.p4 hB.p5
  rw [show addrB k.o0 k.o1 k.o2 k.o3 k.o4 k.o5 k.p0 k.p1 k.p2 k.p3 k.p4 k.p5 = false from hsame] at E
  clear hsame hB
  have R0 := Lib.hid (fr_rows1 w (.cells k.cells 27))
  have a0 : (w.alloc (.cells k.cells 27)).cell? ⟨w.heap.size, 0, none⟩ = some (.int .u8 k.o0) := (cell_of_row _ _ _ _ _ _ R0.out).trans rfl
  have a1 : (w.alloc (.cells k.cells 27)).cell? ⟨w.heap.size, 1, none⟩ = some (.int .u8 k.o1) := (cell_of_row _ _ _ _ _ _ R0.out).trans rfl
  have a2 : (w.alloc (.cells k.cells 27)).cell? ⟨w.heap.size, 2, none⟩ = some (.int .u8 k.o2) := (cell_of_row _ _ _ _ _ _ R0.out).trans rfl
  have a3 : (w.alloc (.cells k.cells 27)).cell? ⟨w.heap.size, 3, none⟩ = some (.int .u8 k.o3) := (cell_of_row _ _ _ _ _ _ R0.out).trans rfl
  have a4 : (w.alloc (.cells k.cells 27)).cell? ⟨w.heap.size, 4, none⟩ = some (.int .u8 k.o4) := (cell_of_row _ _ _ _ _ _ R0.out).trans rfl
  have a5 : (w.alloc (.cells k.cells 27)).cell? ⟨w.heap.size, 5, none⟩ = some (.int .u8 k.o5) := (cell_of_row _ _ _ _ _ _ R0.out).trans rfl
  have a6 : (w.alloc (.cells k.cells 27)).cell? ⟨w.heap.size, 6, none⟩ = some (.int .u8 k.p0) := (cell_of_row _ _ _ _ _ _ R0.out).trans rfl
  have a7 : (w.alloc (.cells k.cells 27)).cell? ⟨w.heap.size, 7, none⟩ = some (.int .u8 k.p1) := (cell_of_row _ _ _ _ _ _ R0.out).trans rfl
  have a8 : (w.alloc (.cells k.cells 27)).cell? ⟨w.heap.size, 8, none⟩ = some (.int .u8 k.p2) := (cell_of_row _ _ _ _ _ _ R0.out).trans rfl
  have a9 : (w.alloc (.cells k.cells 27)).cell? ⟨w.heap.size, 9, none⟩ = some (.int .u8 k.p3) := (cell_of_row _ _ _ _ _ _ R0.out).trans rfl
  have a10 : (w.alloc (.cells k.cells 27)).cell? ⟨w.heap.size, 10, none⟩ = some (.int .u8 k.p4) := (cell_of_row _ _ _ _ _ _ R0.out).trans rfl
  have a11 : (w.alloc (.cells k.cells 27)).cell? ⟨w.heap.size, 11, none⟩ = some (.int .u8 k.p5) := (cell_of_row _ _ _ _ _ _ R0.out).trans rfl
  have s12 : (w.alloc (.cells k.cells 27)).cell? ⟨w.heap.size, 12, none⟩ = some (.int .u8 k.st) := (cell_of_row _ _ _ _ _ _ R0.out).trans rfl
  have s13 : (w.alloc (.cells k.cells 27)).cell? ⟨w.heap.size, 13, none⟩ = some (.int .i64 k.id) := (cell_of_row _ _ _ _ _ _ R0.out).trans rfl
  have s14 : (w.alloc (.cells k.cells 27)).cell? ⟨w.heap.size, 14, none⟩ = some (.int .i64 k.ot) := (cell_of_row _ _ _ _ _ _ R0.out).trans rfl
  have s15 : (w.alloc (.cells k.cells 27)).cell? ⟨w.heap.size, 15, none⟩ = some (.int .i64 k.tr) := (cell_of_row _ _ _ _ _ _ R0.out).trans rfl
  have s16 : (w.alloc (.cells k.cells 27)).cell? ⟨w.heap.size, 16, none⟩ = some (.int .i64 k.du) := (cell_of_row _ _ _ _ _ _ R0.out).trans rfl
  have HB := Lib.hid (show Below w.heap.size w (w.alloc (.cells k.cells 27)) from below_more (Below.refl _ _) _)
  have HI := Lib.hid (link_info2 k)
  have dg0 : decide (k.id < 1) = false := by simp; omega
  have dg1 : decide (65535 < k.id) = false := by simp; omega
  have dg2 : decide (k.ot < 0) = false := by simp; omega
  have dg3 : decide (65535 < k.ot) = false := by simp; omega
  have dg4 : (k.ot == 0) = true := by simpa using g4
  have eg4 : (k.ot != 0) = false := by simpa using g4
  have dg5 : decide (k.tr < 1) = false := by simp; omega
  have dg6 : decide (3 < k.tr) = false := by simp; omega
  have dg7 : decide (k.du < 1) = false := by simp; omega
  have dg8 : decide (1099511667776 < k.du) = true := by simp; omega
  rw [hs] at s12
  clear hs
  go_enter Try.func32, Try.ntmps32
  go_wp2_with (first
    | (with_reducible refine wpList_load_row rfl 27 (.tmp 1) rfl w.heap.size rfl 27 k.cells (0, 0) _ R0.out Try.underlying27 rfl HI.out ?_)
    | ((with_reducible refine wpList_load_subG ?_ 27 (.tmp 1) rfl w.heap.size 0 rfl k.cells _ (range_row R0.out) Try.underlying27 rfl HI.out ?_); (as_aux_lemma => kernel_rfl))
    | (go_at_call 51; (with_reducible refine (KN.out _).mono ?_); rintro e w' ⟨rfl, hb⟩; replace R0 := Lib.hid (row_below hb R0.out); replace HB := Lib.hid (below_step HB.out hb); replace s12 := below_kept hb s12; replace s14 := below_kept hb s14; replace s15 := below_kept hb s15; replace s16 := below_kept hb s16; clear hb)
    | (go_at_call 46; (with_reducible refine (KW.out _).mono ?_); rintro e w' ⟨rfl, hb⟩; replace R0 := Lib.hid (row_below hb R0.out); replace HB := Lib.hid (below_step HB.out hb); replace s12 := below_kept hb s12; replace s14 := below_kept hb s14; replace s15 := below_kept hb s15; replace s16 := below_kept hb s16; clear hb))
  go_ret
  exact ⟨rfl, HB.out⟩
set_option maxHeartbeats 2000000 in
theorem rc_1_ok (k : Lk) (hB : k.By) (hs : k.st = 1) (hsame : k.same = false) (g0 : 1 ≤ k.id) (g1 : k.id ≤ 65535) (g2 : 0 ≤ k.ot) (g3 : k.ot ≤ 65535) (g4 : k.ot = 0) (g5 : 1 ≤ k.tr) (g6 : k.tr ≤ 3) (g7 : 1 ≤ k.du) (g8 : k.du ≤ 1099511667776) (w : World) : Calls Try.prog 32 #[.agg k.cells] w fun e w' => e = .returned (.int .i64 0) ∧ Below w.heap.size w w' := by
  have KN := Lib.hid (fun W => show Calls Try.prog 51 #[.agg k.cells] W (fun e w' => e = .returned (.bool false) ∧ Below W.heap.size W w') from by have h := known_any k W; rw [show knownB k = false by simp only [knownB, hs]; rfl] at h; exact h)
  have KW := Lib.hid (fun W => show Calls Try.prog 46 #[.agg k.cells] W (fun e w' => e = .returned (.bool true) ∧ Below W.heap.size W w') from by have h := waits_any k W; rw [show waitsB k = true by simp only [waitsB, hs]; rfl] at h; exact h)
  have E := eql_addr k.o0 k.o1 k.o2 k.o3 k.o4 k.o5 k.p0 k.p1 k.p2 k.p3 k.p4 k.p5 hB.o0 hB.o1 hB.o2 hB.o3 hB.o4 hB.o5 hB.p0 hB.p1 hB.p2 hB.p3 hB.p4 hB.p5
  rw [show addrB k.o0 k.o1 k.o2 k.o3 k.o4 k.o5 k.p0 k.p1 k.p2 k.p3 k.p4 k.p5 = false from hsame] at E
  clear hsame hB
  have R0 := Lib.hid (fr_rows1 w (.cells k.cells 27))
  have a0 : (w.alloc (.cells k.cells 27)).cell? ⟨w.heap.size, 0, none⟩ = some (.int .u8 k.o0) := (cell_of_row _ _ _ _ _ _ R0.out).trans rfl
  have a1 : (w.alloc (.cells k.cells 27)).cell? ⟨w.heap.size, 1, none⟩ = some (.int .u8 k.o1) := (cell_of_row _ _ _ _ _ _ R0.out).trans rfl
  have a2 : (w.alloc (.cells k.cells 27)).cell? ⟨w.heap.size, 2, none⟩ = some (.int .u8 k.o2) := (cell_of_row _ _ _ _ _ _ R0.out).trans rfl
  have a3 : (w.alloc (.cells k.cells 27)).cell? ⟨w.heap.size, 3, none⟩ = some (.int .u8 k.o3) := (cell_of_row _ _ _ _ _ _ R0.out).trans rfl
  have a4 : (w.alloc (.cells k.cells 27)).cell? ⟨w.heap.size, 4, none⟩ = some (.int .u8 k.o4) := (cell_of_row _ _ _ _ _ _ R0.out).trans rfl
  have a5 : (w.alloc (.cells k.cells 27)).cell? ⟨w.heap.size, 5, none⟩ = some (.int .u8 k.o5) := (cell_of_row _ _ _ _ _ _ R0.out).trans rfl
  have a6 : (w.alloc (.cells k.cells 27)).cell? ⟨w.heap.size, 6, none⟩ = some (.int .u8 k.p0) := (cell_of_row _ _ _ _ _ _ R0.out).trans rfl
  have a7 : (w.alloc (.cells k.cells 27)).cell? ⟨w.heap.size, 7, none⟩ = some (.int .u8 k.p1) := (cell_of_row _ _ _ _ _ _ R0.out).trans rfl
  have a8 : (w.alloc (.cells k.cells 27)).cell? ⟨w.heap.size, 8, none⟩ = some (.int .u8 k.p2) := (cell_of_row _ _ _ _ _ _ R0.out).trans rfl
  have a9 : (w.alloc (.cells k.cells 27)).cell? ⟨w.heap.size, 9, none⟩ = some (.int .u8 k.p3) := (cell_of_row _ _ _ _ _ _ R0.out).trans rfl
  have a10 : (w.alloc (.cells k.cells 27)).cell? ⟨w.heap.size, 10, none⟩ = some (.int .u8 k.p4) := (cell_of_row _ _ _ _ _ _ R0.out).trans rfl
  have a11 : (w.alloc (.cells k.cells 27)).cell? ⟨w.heap.size, 11, none⟩ = some (.int .u8 k.p5) := (cell_of_row _ _ _ _ _ _ R0.out).trans rfl
  have s12 : (w.alloc (.cells k.cells 27)).cell? ⟨w.heap.size, 12, none⟩ = some (.int .u8 k.st) := (cell_of_row _ _ _ _ _ _ R0.out).trans rfl
  have s13 : (w.alloc (.cells k.cells 27)).cell? ⟨w.heap.size, 13, none⟩ = some (.int .i64 k.id) := (cell_of_row _ _ _ _ _ _ R0.out).trans rfl
  have s14 : (w.alloc (.cells k.cells 27)).cell? ⟨w.heap.size, 14, none⟩ = some (.int .i64 k.ot) := (cell_of_row _ _ _ _ _ _ R0.out).trans rfl
  have s15 : (w.alloc (.cells k.cells 27)).cell? ⟨w.heap.size, 15, none⟩ = some (.int .i64 k.tr) := (cell_of_row _ _ _ _ _ _ R0.out).trans rfl
  have s16 : (w.alloc (.cells k.cells 27)).cell? ⟨w.heap.size, 16, none⟩ = some (.int .i64 k.du) := (cell_of_row _ _ _ _ _ _ R0.out).trans rfl
  have HB := Lib.hid (show Below w.heap.size w (w.alloc (.cells k.cells 27)) from below_more (Below.refl _ _) _)
  have HI := Lib.hid (link_info2 k)
  have dg0 : decide (k.id < 1) = false := by simp; omega
  have dg1 : decide (65535 < k.id) = false := by simp; omega
  have dg2 : decide (k.ot < 0) = false := by simp; omega
  have dg3 : decide (65535 < k.ot) = false := by simp; omega
  have dg4 : (k.ot == 0) = true := by simpa using g4
  have eg4 : (k.ot != 0) = false := by simpa using g4
  have dg5 : decide (k.tr < 1) = false := by simp; omega
  have dg6 : decide (3 < k.tr) = false := by simp; omega
  have dg7 : decide (k.du < 1) = false := by simp; omega
  have dg8 : decide (1099511667776 < k.du) = false := by simp; omega
  rw [hs] at s12
  clear hs
  go_enter Try.func32, Try.ntmps32
  go_wp2_with (first
    | (with_reducible refine wpList_load_row rfl 27 (.tmp 1) rfl w.heap.size rfl 27 k.cells (0, 0) _ R0.out Try.underlying27 rfl HI.out ?_)
    | ((with_reducible refine wpList_load_subG ?_ 27 (.tmp 1) rfl w.heap.size 0 rfl k.cells _ (range_row R0.out) Try.underlying27 rfl HI.out ?_); (as_aux_lemma => kernel_rfl))
    | (go_at_call 51; (with_reducible refine (KN.out _).mono ?_); rintro e w' ⟨rfl, hb⟩; replace R0 := Lib.hid (row_below hb R0.out); replace HB := Lib.hid (below_step HB.out hb); replace s12 := below_kept hb s12; replace s14 := below_kept hb s14; replace s15 := below_kept hb s15; replace s16 := below_kept hb s16; clear hb)
    | (go_at_call 46; (with_reducible refine (KW.out _).mono ?_); rintro e w' ⟨rfl, hb⟩; replace R0 := Lib.hid (row_below hb R0.out); replace HB := Lib.hid (below_step HB.out hb); replace s12 := below_kept hb s12; replace s14 := below_kept hb s14; replace s15 := below_kept hb s15; replace s16 := below_kept hb s16; clear hb))
  go_ret
  exact ⟨rfl, HB.out⟩
theorem refcheck_1 (k : Lk) (hB : k.By) (hs : k.st = 1) (w : World) : Calls Try.prog 32 #[.agg k.cells] w fun e w' => e = .returned (.int .i64 k.chk) ∧ Below w.heap.size w w' := by
  by_cases hsame : k.same = true
  · rw [chk_bad (fun h => by rw [hsame] at h; exact absurd h.1 (by decide))]
    exact rc_1_same k hB hs hsame w
  have hsm : k.same = false := by simpa using hsame
  by_cases g0 : k.id < 1
  · rw [chk_bad (fun h => by have h2 := h.2; simp only [Lk.Shape] at h2; omega)]
    exact rc_1_0 k hB hs hsm g0 w
  replace g0 : 1 ≤ k.id := by omega
  by_cases g1 : 65535 < k.id
  · rw [chk_bad (fun h => by have h2 := h.2; simp only [Lk.Shape] at h2; omega)]
    exact rc_1_1 k hB hs hsm g0 g1 w
  replace g1 : k.id ≤ 65535 := by omega
  by_cases g2 : k.ot < 0
  · rw [chk_bad (fun h => by have h2 := h.2; simp only [Lk.Shape] at h2; omega)]
    exact rc_1_2 k hB hs hsm g0 g1 g2 w
  replace g2 : 0 ≤ k.ot := by omega
  by_cases g3 : 65535 < k.ot
  · rw [chk_bad (fun h => by have h2 := h.2; simp only [Lk.Shape] at h2; omega)]
    exact rc_1_3 k hB hs hsm g0 g1 g2 g3 w
  replace g3 : k.ot ≤ 65535 := by omega
  by_cases g4 : k.ot ≠ 0
  · rw [chk_bad (fun h => by have h2 := h.2; simp only [Lk.Shape] at h2; omega)]
    exact rc_1_4 k hB hs hsm g0 g1 g2 g3 g4 w
  replace g4 : k.ot = 0 := by omega
  by_cases g5 : k.tr < 1
  · rw [chk_bad (fun h => by have h2 := h.2; simp only [Lk.Shape] at h2; omega)]
    exact rc_1_5 k hB hs hsm g0 g1 g2 g3 g4 g5 w
  replace g5 : 1 ≤ k.tr := by omega
  by_cases g6 : 3 < k.tr
  · rw [chk_bad (fun h => by have h2 := h.2; simp only [Lk.Shape] at h2; omega)]
    exact rc_1_6 k hB hs hsm g0 g1 g2 g3 g4 g5 g6 w
  replace g6 : k.tr ≤ 3 := by omega
  by_cases g7 : k.du < 1
  · rw [chk_bad (fun h => by have h2 := h.2; simp only [Lk.Shape] at h2; omega)]
    exact rc_1_7 k hB hs hsm g0 g1 g2 g3 g4 g5 g6 g7 w
  replace g7 : 1 ≤ k.du := by omega
  by_cases g8 : 1099511667776 < k.du
  · rw [chk_bad (fun h => by have h2 := h.2; simp only [Lk.Shape] at h2; omega)]
    exact rc_1_8 k hB hs hsm g0 g1 g2 g3 g4 g5 g6 g7 g8 w
  replace g8 : k.du ≤ 1099511667776 := by omega
  rw [(chk_shape k).2 ⟨hsm, ⟨by omega, by omega⟩, by simp only [Lk.Shape]; omega⟩]
  exact rc_1_ok k hB hs hsm g0 g1 g2 g3 g4 g5 g6 g7 g8 w
set_option maxHeartbeats 2000000 in
theorem rc_2_same (k : Lk) (hB : k.By) (hs : k.st = 2) (hsame : k.same = true) (w : World) : Calls Try.prog 32 #[.agg k.cells] w fun e w' => e = .returned (.int .i64 8) ∧ Below w.heap.size w w' := by
  have KN := Lib.hid (fun W => show Calls Try.prog 51 #[.agg k.cells] W (fun e w' => e = .returned (.bool true) ∧ Below W.heap.size W w') from by have h := known_any k W; rw [show knownB k = true by simp only [knownB, hs]; rfl] at h; exact h)
  have KW := Lib.hid (fun W => show Calls Try.prog 46 #[.agg k.cells] W (fun e w' => e = .returned (.bool true) ∧ Below W.heap.size W w') from by have h := waits_any k W; rw [show waitsB k = true by simp only [waitsB, hs]; rfl] at h; exact h)
  have E := eql_addr k.o0 k.o1 k.o2 k.o3 k.o4 k.o5 k.p0 k.p1 k.p2 k.p3 k.p4 k.p5 hB.o0 hB.o1 hB.o2 hB.o3 hB.o4 hB.o5 hB.p0 hB.p1 hB.p2 hB.p3 hB.p4 hB.p5
  rw [show addrB k.o0 k.o1 k.o2 k.o3 k.o4 k.o5 k.p0 k.p1 k.p2 k.p3 k.p4 k.p5 = true from hsame] at E
  clear hsame hB
  have R0 := Lib.hid (fr_rows1 w (.cells k.cells 27))
  have a0 : (w.alloc (.cells k.cells 27)).cell? ⟨w.heap.size, 0, none⟩ = some (.int .u8 k.o0) := (cell_of_row _ _ _ _ _ _ R0.out).trans rfl
  have a1 : (w.alloc (.cells k.cells 27)).cell? ⟨w.heap.size, 1, none⟩ = some (.int .u8 k.o1) := (cell_of_row _ _ _ _ _ _ R0.out).trans rfl
  have a2 : (w.alloc (.cells k.cells 27)).cell? ⟨w.heap.size, 2, none⟩ = some (.int .u8 k.o2) := (cell_of_row _ _ _ _ _ _ R0.out).trans rfl
  have a3 : (w.alloc (.cells k.cells 27)).cell? ⟨w.heap.size, 3, none⟩ = some (.int .u8 k.o3) := (cell_of_row _ _ _ _ _ _ R0.out).trans rfl
  have a4 : (w.alloc (.cells k.cells 27)).cell? ⟨w.heap.size, 4, none⟩ = some (.int .u8 k.o4) := (cell_of_row _ _ _ _ _ _ R0.out).trans rfl
  have a5 : (w.alloc (.cells k.cells 27)).cell? ⟨w.heap.size, 5, none⟩ = some (.int .u8 k.o5) := (cell_of_row _ _ _ _ _ _ R0.out).trans rfl
  have a6 : (w.alloc (.cells k.cells 27)).cell? ⟨w.heap.size, 6, none⟩ = some (.int .u8 k.p0) := (cell_of_row _ _ _ _ _ _ R0.out).trans rfl
  have a7 : (w.alloc (.cells k.cells 27)).cell? ⟨w.heap.size, 7, none⟩ = some (.int .u8 k.p1) := (cell_of_row _ _ _ _ _ _ R0.out).trans rfl
  have a8 : (w.alloc (.cells k.cells 27)).cell? ⟨w.heap.size, 8, none⟩ = some (.int .u8 k.p2) := (cell_of_row _ _ _ _ _ _ R0.out).trans rfl
  have a9 : (w.alloc (.cells k.cells 27)).cell? ⟨w.heap.size, 9, none⟩ = some (.int .u8 k.p3) := (cell_of_row _ _ _ _ _ _ R0.out).trans rfl
  have a10 : (w.alloc (.cells k.cells 27)).cell? ⟨w.heap.size, 10, none⟩ = some (.int .u8 k.p4) := (cell_of_row _ _ _ _ _ _ R0.out).trans rfl
  have a11 : (w.alloc (.cells k.cells 27)).cell? ⟨w.heap.size, 11, none⟩ = some (.int .u8 k.p5) := (cell_of_row _ _ _ _ _ _ R0.out).trans rfl
  have s12 : (w.alloc (.cells k.cells 27)).cell? ⟨w.heap.size, 12, none⟩ = some (.int .u8 k.st) := (cell_of_row _ _ _ _ _ _ R0.out).trans rfl
  have s13 : (w.alloc (.cells k.cells 27)).cell? ⟨w.heap.size, 13, none⟩ = some (.int .i64 k.id) := (cell_of_row _ _ _ _ _ _ R0.out).trans rfl
  have s14 : (w.alloc (.cells k.cells 27)).cell? ⟨w.heap.size, 14, none⟩ = some (.int .i64 k.ot) := (cell_of_row _ _ _ _ _ _ R0.out).trans rfl
  have s15 : (w.alloc (.cells k.cells 27)).cell? ⟨w.heap.size, 15, none⟩ = some (.int .i64 k.tr) := (cell_of_row _ _ _ _ _ _ R0.out).trans rfl
  have s16 : (w.alloc (.cells k.cells 27)).cell? ⟨w.heap.size, 16, none⟩ = some (.int .i64 k.du) := (cell_of_row _ _ _ _ _ _ R0.out).trans rfl
  have HB := Lib.hid (show Below w.heap.size w (w.alloc (.cells k.cells 27)) from below_more (Below.refl _ _) _)
  have HI := Lib.hid (link_info2 k)
  rw [hs] at s12
  clear hs
  go_enter Try.func32, Try.ntmps32
  go_wp2_with (first
    | (with_reducible refine wpList_load_row rfl 27 (.tmp 1) rfl w.heap.size rfl 27 k.cells (0, 0) _ R0.out Try.underlying27 rfl HI.out ?_)
    | ((with_reducible refine wpList_load_subG ?_ 27 (.tmp 1) rfl w.heap.size 0 rfl k.cells _ (range_row R0.out) Try.underlying27 rfl HI.out ?_); (as_aux_lemma => kernel_rfl))
    | (go_at_call 51; (with_reducible refine (KN.out _).mono ?_); rintro e w' ⟨rfl, hb⟩; replace R0 := Lib.hid (row_below hb R0.out); replace HB := Lib.hid (below_step HB.out hb); replace s12 := below_kept hb s12; replace s14 := below_kept hb s14; replace s15 := below_kept hb s15; replace s16 := below_kept hb s16; clear hb)
    | (go_at_call 46; (with_reducible refine (KW.out _).mono ?_); rintro e w' ⟨rfl, hb⟩; replace R0 := Lib.hid (row_below hb R0.out); replace HB := Lib.hid (below_step HB.out hb); replace s12 := below_kept hb s12; replace s14 := below_kept hb s14; replace s15 := below_kept hb s15; replace s16 := below_kept hb s16; clear hb))
  go_ret
  exact ⟨rfl, HB.out⟩
set_option maxHeartbeats 2000000 in
theorem rc_2_0 (k : Lk) (hB : k.By) (hs : k.st = 2) (hsame : k.same = false) (g0 : k.id < 1) (w : World) : Calls Try.prog 32 #[.agg k.cells] w fun e w' => e = .returned (.int .i64 8) ∧ Below w.heap.size w w' := by
  have KN := Lib.hid (fun W => show Calls Try.prog 51 #[.agg k.cells] W (fun e w' => e = .returned (.bool true) ∧ Below W.heap.size W w') from by have h := known_any k W; rw [show knownB k = true by simp only [knownB, hs]; rfl] at h; exact h)
  have KW := Lib.hid (fun W => show Calls Try.prog 46 #[.agg k.cells] W (fun e w' => e = .returned (.bool true) ∧ Below W.heap.size W w') from by have h := waits_any k W; rw [show waitsB k = true by simp only [waitsB, hs]; rfl] at h; exact h)
  have E := eql_addr k.o0 k.o1 k.o2 k.o3 k.o4 k.o5 k.p0 k.p1 k.p2 k.p3 k.p4 k.p5 hB.o0 hB.o1 hB.o2 hB.o3 hB.o4 hB.o5 hB.p0 hB.p1 hB.p2 hB.p3 hB.p4 hB.p5
  rw [show addrB k.o0 k.o1 k.o2 k.o3 k.o4 k.o5 k.p0 k.p1 k.p2 k.p3 k.p4 k.p5 = false from hsame] at E
  clear hsame hB
  have R0 := Lib.hid (fr_rows1 w (.cells k.cells 27))
  have a0 : (w.alloc (.cells k.cells 27)).cell? ⟨w.heap.size, 0, none⟩ = some (.int .u8 k.o0) := (cell_of_row _ _ _ _ _ _ R0.out).trans rfl
  have a1 : (w.alloc (.cells k.cells 27)).cell? ⟨w.heap.size, 1, none⟩ = some (.int .u8 k.o1) := (cell_of_row _ _ _ _ _ _ R0.out).trans rfl
  have a2 : (w.alloc (.cells k.cells 27)).cell? ⟨w.heap.size, 2, none⟩ = some (.int .u8 k.o2) := (cell_of_row _ _ _ _ _ _ R0.out).trans rfl
  have a3 : (w.alloc (.cells k.cells 27)).cell? ⟨w.heap.size, 3, none⟩ = some (.int .u8 k.o3) := (cell_of_row _ _ _ _ _ _ R0.out).trans rfl
  have a4 : (w.alloc (.cells k.cells 27)).cell? ⟨w.heap.size, 4, none⟩ = some (.int .u8 k.o4) := (cell_of_row _ _ _ _ _ _ R0.out).trans rfl
  have a5 : (w.alloc (.cells k.cells 27)).cell? ⟨w.heap.size, 5, none⟩ = some (.int .u8 k.o5) := (cell_of_row _ _ _ _ _ _ R0.out).trans rfl
  have a6 : (w.alloc (.cells k.cells 27)).cell? ⟨w.heap.size, 6, none⟩ = some (.int .u8 k.p0) := (cell_of_row _ _ _ _ _ _ R0.out).trans rfl
  have a7 : (w.alloc (.cells k.cells 27)).cell? ⟨w.heap.size, 7, none⟩ = some (.int .u8 k.p1) := (cell_of_row _ _ _ _ _ _ R0.out).trans rfl
  have a8 : (w.alloc (.cells k.cells 27)).cell? ⟨w.heap.size, 8, none⟩ = some (.int .u8 k.p2) := (cell_of_row _ _ _ _ _ _ R0.out).trans rfl
  have a9 : (w.alloc (.cells k.cells 27)).cell? ⟨w.heap.size, 9, none⟩ = some (.int .u8 k.p3) := (cell_of_row _ _ _ _ _ _ R0.out).trans rfl
  have a10 : (w.alloc (.cells k.cells 27)).cell? ⟨w.heap.size, 10, none⟩ = some (.int .u8 k.p4) := (cell_of_row _ _ _ _ _ _ R0.out).trans rfl
  have a11 : (w.alloc (.cells k.cells 27)).cell? ⟨w.heap.size, 11, none⟩ = some (.int .u8 k.p5) := (cell_of_row _ _ _ _ _ _ R0.out).trans rfl
  have s12 : (w.alloc (.cells k.cells 27)).cell? ⟨w.heap.size, 12, none⟩ = some (.int .u8 k.st) := (cell_of_row _ _ _ _ _ _ R0.out).trans rfl
  have s13 : (w.alloc (.cells k.cells 27)).cell? ⟨w.heap.size, 13, none⟩ = some (.int .i64 k.id) := (cell_of_row _ _ _ _ _ _ R0.out).trans rfl
  have s14 : (w.alloc (.cells k.cells 27)).cell? ⟨w.heap.size, 14, none⟩ = some (.int .i64 k.ot) := (cell_of_row _ _ _ _ _ _ R0.out).trans rfl
  have s15 : (w.alloc (.cells k.cells 27)).cell? ⟨w.heap.size, 15, none⟩ = some (.int .i64 k.tr) := (cell_of_row _ _ _ _ _ _ R0.out).trans rfl
  have s16 : (w.alloc (.cells k.cells 27)).cell? ⟨w.heap.size, 16, none⟩ = some (.int .i64 k.du) := (cell_of_row _ _ _ _ _ _ R0.out).trans rfl
  have HB := Lib.hid (show Below w.heap.size w (w.alloc (.cells k.cells 27)) from below_more (Below.refl _ _) _)
  have HI := Lib.hid (link_info2 k)
  have dg0 : decide (k.id < 1) = true := by simp; omega
  rw [hs] at s12
  clear hs
  go_enter Try.func32, Try.ntmps32
  go_wp2_with (first
    | (with_reducible refine wpList_load_row rfl 27 (.tmp 1) rfl w.heap.size rfl 27 k.cells (0, 0) _ R0.out Try.underlying27 rfl HI.out ?_)
    | ((with_reducible refine wpList_load_subG ?_ 27 (.tmp 1) rfl w.heap.size 0 rfl k.cells _ (range_row R0.out) Try.underlying27 rfl HI.out ?_); (as_aux_lemma => kernel_rfl))
    | (go_at_call 51; (with_reducible refine (KN.out _).mono ?_); rintro e w' ⟨rfl, hb⟩; replace R0 := Lib.hid (row_below hb R0.out); replace HB := Lib.hid (below_step HB.out hb); replace s12 := below_kept hb s12; replace s14 := below_kept hb s14; replace s15 := below_kept hb s15; replace s16 := below_kept hb s16; clear hb)
    | (go_at_call 46; (with_reducible refine (KW.out _).mono ?_); rintro e w' ⟨rfl, hb⟩; replace R0 := Lib.hid (row_below hb R0.out); replace HB := Lib.hid (below_step HB.out hb); replace s12 := below_kept hb s12; replace s14 := below_kept hb s14; replace s15 := below_kept hb s15; replace s16 := below_kept hb s16; clear hb))
  go_ret
  exact ⟨rfl, HB.out⟩
set_option maxHeartbeats 2000000 in
theorem rc_2_1 (k : Lk) (hB : k.By) (hs : k.st = 2) (hsame : k.same = false) (g0 : 1 ≤ k.id) (g1 : 65535 < k.id) (w : World) : Calls Try.prog 32 #[.agg k.cells] w fun e w' => e = .returned (.int .i64 8) ∧ Below w.heap.size w w' := by
  have KN := Lib.hid (fun W => show Calls Try.prog 51 #[.agg k.cells] W (fun e w' => e = .returned (.bool true) ∧ Below W.heap.size W w') from by have h := known_any k W; rw [show knownB k = true by simp only [knownB, hs]; rfl] at h; exact h)
  have KW := Lib.hid (fun W => show Calls Try.prog 46 #[.agg k.cells] W (fun e w' => e = .returned (.bool true) ∧ Below W.heap.size W w') from by have h := waits_any k W; rw [show waitsB k = true by simp only [waitsB, hs]; rfl] at h; exact h)
  have E := eql_addr k.o0 k.o1 k.o2 k.o3 k.o4 k.o5 k.p0 k.p1 k.p2 k.p3 k.p4 k.p5 hB.o0 hB.o1 hB.o2 hB.o3 hB.o4 hB.o5 hB.p0 hB.p1 hB.p2 hB.p3 hB.p4 hB.p5
  rw [show addrB k.o0 k.o1 k.o2 k.o3 k.o4 k.o5 k.p0 k.p1 k.p2 k.p3 k.p4 k.p5 = false from hsame] at E
  clear hsame hB
  have R0 := Lib.hid (fr_rows1 w (.cells k.cells 27))
  have a0 : (w.alloc (.cells k.cells 27)).cell? ⟨w.heap.size, 0, none⟩ = some (.int .u8 k.o0) := (cell_of_row _ _ _ _ _ _ R0.out).trans rfl
  have a1 : (w.alloc (.cells k.cells 27)).cell? ⟨w.heap.size, 1, none⟩ = some (.int .u8 k.o1) := (cell_of_row _ _ _ _ _ _ R0.out).trans rfl
  have a2 : (w.alloc (.cells k.cells 27)).cell? ⟨w.heap.size, 2, none⟩ = some (.int .u8 k.o2) := (cell_of_row _ _ _ _ _ _ R0.out).trans rfl
  have a3 : (w.alloc (.cells k.cells 27)).cell? ⟨w.heap.size, 3, none⟩ = some (.int .u8 k.o3) := (cell_of_row _ _ _ _ _ _ R0.out).trans rfl
  have a4 : (w.alloc (.cells k.cells 27)).cell? ⟨w.heap.size, 4, none⟩ = some (.int .u8 k.o4) := (cell_of_row _ _ _ _ _ _ R0.out).trans rfl
  have a5 : (w.alloc (.cells k.cells 27)).cell? ⟨w.heap.size, 5, none⟩ = some (.int .u8 k.o5) := (cell_of_row _ _ _ _ _ _ R0.out).trans rfl
  have a6 : (w.alloc (.cells k.cells 27)).cell? ⟨w.heap.size, 6, none⟩ = some (.int .u8 k.p0) := (cell_of_row _ _ _ _ _ _ R0.out).trans rfl
  have a7 : (w.alloc (.cells k.cells 27)).cell? ⟨w.heap.size, 7, none⟩ = some (.int .u8 k.p1) := (cell_of_row _ _ _ _ _ _ R0.out).trans rfl
  have a8 : (w.alloc (.cells k.cells 27)).cell? ⟨w.heap.size, 8, none⟩ = some (.int .u8 k.p2) := (cell_of_row _ _ _ _ _ _ R0.out).trans rfl
  have a9 : (w.alloc (.cells k.cells 27)).cell? ⟨w.heap.size, 9, none⟩ = some (.int .u8 k.p3) := (cell_of_row _ _ _ _ _ _ R0.out).trans rfl
  have a10 : (w.alloc (.cells k.cells 27)).cell? ⟨w.heap.size, 10, none⟩ = some (.int .u8 k.p4) := (cell_of_row _ _ _ _ _ _ R0.out).trans rfl
  have a11 : (w.alloc (.cells k.cells 27)).cell? ⟨w.heap.size, 11, none⟩ = some (.int .u8 k.p5) := (cell_of_row _ _ _ _ _ _ R0.out).trans rfl
  have s12 : (w.alloc (.cells k.cells 27)).cell? ⟨w.heap.size, 12, none⟩ = some (.int .u8 k.st) := (cell_of_row _ _ _ _ _ _ R0.out).trans rfl
  have s13 : (w.alloc (.cells k.cells 27)).cell? ⟨w.heap.size, 13, none⟩ = some (.int .i64 k.id) := (cell_of_row _ _ _ _ _ _ R0.out).trans rfl
  have s14 : (w.alloc (.cells k.cells 27)).cell? ⟨w.heap.size, 14, none⟩ = some (.int .i64 k.ot) := (cell_of_row _ _ _ _ _ _ R0.out).trans rfl
  have s15 : (w.alloc (.cells k.cells 27)).cell? ⟨w.heap.size, 15, none⟩ = some (.int .i64 k.tr) := (cell_of_row _ _ _ _ _ _ R0.out).trans rfl
  have s16 : (w.alloc (.cells k.cells 27)).cell? ⟨w.heap.size, 16, none⟩ = some (.int .i64 k.du) := (cell_of_row _ _ _ _ _ _ R0.out).trans rfl
  have HB := Lib.hid (show Below w.heap.size w (w.alloc (.cells k.cells 27)) from below_more (Below.refl _ _) _)
  have HI := Lib.hid (link_info2 k)
  have dg0 : decide (k.id < 1) = false := by simp; omega
  have dg1 : decide (65535 < k.id) = true := by simp; omega
  rw [hs] at s12
  clear hs
  go_enter Try.func32, Try.ntmps32
  go_wp2_with (first
    | (with_reducible refine wpList_load_row rfl 27 (.tmp 1) rfl w.heap.size rfl 27 k.cells (0, 0) _ R0.out Try.underlying27 rfl HI.out ?_)
    | ((with_reducible refine wpList_load_subG ?_ 27 (.tmp 1) rfl w.heap.size 0 rfl k.cells _ (range_row R0.out) Try.underlying27 rfl HI.out ?_); (as_aux_lemma => kernel_rfl))
    | (go_at_call 51; (with_reducible refine (KN.out _).mono ?_); rintro e w' ⟨rfl, hb⟩; replace R0 := Lib.hid (row_below hb R0.out); replace HB := Lib.hid (below_step HB.out hb); replace s12 := below_kept hb s12; replace s14 := below_kept hb s14; replace s15 := below_kept hb s15; replace s16 := below_kept hb s16; clear hb)
    | (go_at_call 46; (with_reducible refine (KW.out _).mono ?_); rintro e w' ⟨rfl, hb⟩; replace R0 := Lib.hid (row_below hb R0.out); replace HB := Lib.hid (below_step HB.out hb); replace s12 := below_kept hb s12; replace s14 := below_kept hb s14; replace s15 := below_kept hb s15; replace s16 := below_kept hb s16; clear hb))
  go_ret
  exact ⟨rfl, HB.out⟩
set_option maxHeartbeats 2000000 in
theorem rc_2_2 (k : Lk) (hB : k.By) (hs : k.st = 2) (hsame : k.same = false) (g0 : 1 ≤ k.id) (g1 : k.id ≤ 65535) (g2 : k.ot < 0) (w : World) : Calls Try.prog 32 #[.agg k.cells] w fun e w' => e = .returned (.int .i64 8) ∧ Below w.heap.size w w' := by
  have KN := Lib.hid (fun W => show Calls Try.prog 51 #[.agg k.cells] W (fun e w' => e = .returned (.bool true) ∧ Below W.heap.size W w') from by have h := known_any k W; rw [show knownB k = true by simp only [knownB, hs]; rfl] at h; exact h)
  have KW := Lib.hid (fun W => show Calls Try.prog 46 #[.agg k.cells] W (fun e w' => e = .returned (.bool true) ∧ Below W.heap.size W w') from by have h := waits_any k W; rw [show waitsB k = true by simp only [waitsB, hs]; rfl] at h; exact h)
  have E := eql_addr k.o0 k.o1 k.o2 k.o3 k.o4 k.o5 k.p0 k.p1 k.p2 k.p3 k.p4 k.p5 hB.o0 hB.o1 hB.o2 hB.o3 hB.o4 hB.o5 hB.p0 hB.p1 hB.p2 hB.p3 hB.p4 hB.p5
  rw [show addrB k.o0 k.o1 k.o2 k.o3 k.o4 k.o5 k.p0 k.p1 k.p2 k.p3 k.p4 k.p5 = false from hsame] at E
  clear hsame hB
  have R0 := Lib.hid (fr_rows1 w (.cells k.cells 27))
  have a0 : (w.alloc (.cells k.cells 27)).cell? ⟨w.heap.size, 0, none⟩ = some (.int .u8 k.o0) := (cell_of_row _ _ _ _ _ _ R0.out).trans rfl
  have a1 : (w.alloc (.cells k.cells 27)).cell? ⟨w.heap.size, 1, none⟩ = some (.int .u8 k.o1) := (cell_of_row _ _ _ _ _ _ R0.out).trans rfl
  have a2 : (w.alloc (.cells k.cells 27)).cell? ⟨w.heap.size, 2, none⟩ = some (.int .u8 k.o2) := (cell_of_row _ _ _ _ _ _ R0.out).trans rfl
  have a3 : (w.alloc (.cells k.cells 27)).cell? ⟨w.heap.size, 3, none⟩ = some (.int .u8 k.o3) := (cell_of_row _ _ _ _ _ _ R0.out).trans rfl
  have a4 : (w.alloc (.cells k.cells 27)).cell? ⟨w.heap.size, 4, none⟩ = some (.int .u8 k.o4) := (cell_of_row _ _ _ _ _ _ R0.out).trans rfl
  have a5 : (w.alloc (.cells k.cells 27)).cell? ⟨w.heap.size, 5, none⟩ = some (.int .u8 k.o5) := (cell_of_row _ _ _ _ _ _ R0.out).trans rfl
  have a6 : (w.alloc (.cells k.cells 27)).cell? ⟨w.heap.size, 6, none⟩ = some (.int .u8 k.p0) := (cell_of_row _ _ _ _ _ _ R0.out).trans rfl
  have a7 : (w.alloc (.cells k.cells 27)).cell? ⟨w.heap.size, 7, none⟩ = some (.int .u8 k.p1) := (cell_of_row _ _ _ _ _ _ R0.out).trans rfl
  have a8 : (w.alloc (.cells k.cells 27)).cell? ⟨w.heap.size, 8, none⟩ = some (.int .u8 k.p2) := (cell_of_row _ _ _ _ _ _ R0.out).trans rfl
  have a9 : (w.alloc (.cells k.cells 27)).cell? ⟨w.heap.size, 9, none⟩ = some (.int .u8 k.p3) := (cell_of_row _ _ _ _ _ _ R0.out).trans rfl
  have a10 : (w.alloc (.cells k.cells 27)).cell? ⟨w.heap.size, 10, none⟩ = some (.int .u8 k.p4) := (cell_of_row _ _ _ _ _ _ R0.out).trans rfl
  have a11 : (w.alloc (.cells k.cells 27)).cell? ⟨w.heap.size, 11, none⟩ = some (.int .u8 k.p5) := (cell_of_row _ _ _ _ _ _ R0.out).trans rfl
  have s12 : (w.alloc (.cells k.cells 27)).cell? ⟨w.heap.size, 12, none⟩ = some (.int .u8 k.st) := (cell_of_row _ _ _ _ _ _ R0.out).trans rfl
  have s13 : (w.alloc (.cells k.cells 27)).cell? ⟨w.heap.size, 13, none⟩ = some (.int .i64 k.id) := (cell_of_row _ _ _ _ _ _ R0.out).trans rfl
  have s14 : (w.alloc (.cells k.cells 27)).cell? ⟨w.heap.size, 14, none⟩ = some (.int .i64 k.ot) := (cell_of_row _ _ _ _ _ _ R0.out).trans rfl
  have s15 : (w.alloc (.cells k.cells 27)).cell? ⟨w.heap.size, 15, none⟩ = some (.int .i64 k.tr) := (cell_of_row _ _ _ _ _ _ R0.out).trans rfl
  have s16 : (w.alloc (.cells k.cells 27)).cell? ⟨w.heap.size, 16, none⟩ = some (.int .i64 k.du) := (cell_of_row _ _ _ _ _ _ R0.out).trans rfl
  have HB := Lib.hid (show Below w.heap.size w (w.alloc (.cells k.cells 27)) from below_more (Below.refl _ _) _)
  have HI := Lib.hid (link_info2 k)
  have dg0 : decide (k.id < 1) = false := by simp; omega
  have dg1 : decide (65535 < k.id) = false := by simp; omega
  have dg2 : decide (k.ot < 0) = true := by simp; omega
  rw [hs] at s12
  clear hs
  go_enter Try.func32, Try.ntmps32
  go_wp2_with (first
    | (with_reducible refine wpList_load_row rfl 27 (.tmp 1) rfl w.heap.size rfl 27 k.cells (0, 0) _ R0.out Try.underlying27 rfl HI.out ?_)
    | ((with_reducible refine wpList_load_subG ?_ 27 (.tmp 1) rfl w.heap.size 0 rfl k.cells _ (range_row R0.out) Try.underlying27 rfl HI.out ?_); (as_aux_lemma => kernel_rfl))
    | (go_at_call 51; (with_reducible refine (KN.out _).mono ?_); rintro e w' ⟨rfl, hb⟩; replace R0 := Lib.hid (row_below hb R0.out); replace HB := Lib.hid (below_step HB.out hb); replace s12 := below_kept hb s12; replace s14 := below_kept hb s14; replace s15 := below_kept hb s15; replace s16 := below_kept hb s16; clear hb)
    | (go_at_call 46; (with_reducible refine (KW.out _).mono ?_); rintro e w' ⟨rfl, hb⟩; replace R0 := Lib.hid (row_below hb R0.out); replace HB := Lib.hid (below_step HB.out hb); replace s12 := below_kept hb s12; replace s14 := below_kept hb s14; replace s15 := below_kept hb s15; replace s16 := below_kept hb s16; clear hb))
  go_ret
  exact ⟨rfl, HB.out⟩
set_option maxHeartbeats 2000000 in
theorem rc_2_3 (k : Lk) (hB : k.By) (hs : k.st = 2) (hsame : k.same = false) (g0 : 1 ≤ k.id) (g1 : k.id ≤ 65535) (g2 : 0 ≤ k.ot) (g3 : 65535 < k.ot) (w : World) : Calls Try.prog 32 #[.agg k.cells] w fun e w' => e = .returned (.int .i64 8) ∧ Below w.heap.size w w' := by
  have KN := Lib.hid (fun W => show Calls Try.prog 51 #[.agg k.cells] W (fun e w' => e = .returned (.bool true) ∧ Below W.heap.size W w') from by have h := known_any k W; rw [show knownB k = true by simp only [knownB, hs]; rfl] at h; exact h)
  have KW := Lib.hid (fun W => show Calls Try.prog 46 #[.agg k.cells] W (fun e w' => e = .returned (.bool true) ∧ Below W.heap.size W w') from by have h := waits_any k W; rw [show waitsB k = true by simp only [waitsB, hs]; rfl] at h; exact h)
  have E := eql_addr k.o0 k.o1 k.o2 k.o3 k.o4 k.o5 k.p0 k.p1 k.p2 k.p3 k.p4 k.p5 hB.o0 hB.o1 hB.o2 hB.o3 hB.o4 hB.o5 hB.p0 hB.p1 hB.p2 hB.p3 hB.p4 hB.p5
  rw [show addrB k.o0 k.o1 k.o2 k.o3 k.o4 k.o5 k.p0 k.p1 k.p2 k.p3 k.p4 k.p5 = false from hsame] at E
  clear hsame hB
  have R0 := Lib.hid (fr_rows1 w (.cells k.cells 27))
  have a0 : (w.alloc (.cells k.cells 27)).cell? ⟨w.heap.size, 0, none⟩ = some (.int .u8 k.o0) := (cell_of_row _ _ _ _ _ _ R0.out).trans rfl
  have a1 : (w.alloc (.cells k.cells 27)).cell? ⟨w.heap.size, 1, none⟩ = some (.int .u8 k.o1) := (cell_of_row _ _ _ _ _ _ R0.out).trans rfl
  have a2 : (w.alloc (.cells k.cells 27)).cell? ⟨w.heap.size, 2, none⟩ = some (.int .u8 k.o2) := (cell_of_row _ _ _ _ _ _ R0.out).trans rfl
  have a3 : (w.alloc (.cells k.cells 27)).cell? ⟨w.heap.size, 3, none⟩ = some (.int .u8 k.o3) := (cell_of_row _ _ _ _ _ _ R0.out).trans rfl
  have a4 : (w.alloc (.cells k.cells 27)).cell? ⟨w.heap.size, 4, none⟩ = some (.int .u8 k.o4) := (cell_of_row _ _ _ _ _ _ R0.out).trans rfl
  have a5 : (w.alloc (.cells k.cells 27)).cell? ⟨w.heap.size, 5, none⟩ = some (.int .u8 k.o5) := (cell_of_row _ _ _ _ _ _ R0.out).trans rfl
  have a6 : (w.alloc (.cells k.cells 27)).cell? ⟨w.heap.size, 6, none⟩ = some (.int .u8 k.p0) := (cell_of_row _ _ _ _ _ _ R0.out).trans rfl
  have a7 : (w.alloc (.cells k.cells 27)).cell? ⟨w.heap.size, 7, none⟩ = some (.int .u8 k.p1) := (cell_of_row _ _ _ _ _ _ R0.out).trans rfl
  have a8 : (w.alloc (.cells k.cells 27)).cell? ⟨w.heap.size, 8, none⟩ = some (.int .u8 k.p2) := (cell_of_row _ _ _ _ _ _ R0.out).trans rfl
  have a9 : (w.alloc (.cells k.cells 27)).cell? ⟨w.heap.size, 9, none⟩ = some (.int .u8 k.p3) := (cell_of_row _ _ _ _ _ _ R0.out).trans rfl
  have a10 : (w.alloc (.cells k.cells 27)).cell? ⟨w.heap.size, 10, none⟩ = some (.int .u8 k.p4) := (cell_of_row _ _ _ _ _ _ R0.out).trans rfl
  have a11 : (w.alloc (.cells k.cells 27)).cell? ⟨w.heap.size, 11, none⟩ = some (.int .u8 k.p5) := (cell_of_row _ _ _ _ _ _ R0.out).trans rfl
  have s12 : (w.alloc (.cells k.cells 27)).cell? ⟨w.heap.size, 12, none⟩ = some (.int .u8 k.st) := (cell_of_row _ _ _ _ _ _ R0.out).trans rfl
  have s13 : (w.alloc (.cells k.cells 27)).cell? ⟨w.heap.size, 13, none⟩ = some (.int .i64 k.id) := (cell_of_row _ _ _ _ _ _ R0.out).trans rfl
  have s14 : (w.alloc (.cells k.cells 27)).cell? ⟨w.heap.size, 14, none⟩ = some (.int .i64 k.ot) := (cell_of_row _ _ _ _ _ _ R0.out).trans rfl
  have s15 : (w.alloc (.cells k.cells 27)).cell? ⟨w.heap.size, 15, none⟩ = some (.int .i64 k.tr) := (cell_of_row _ _ _ _ _ _ R0.out).trans rfl
  have s16 : (w.alloc (.cells k.cells 27)).cell? ⟨w.heap.size, 16, none⟩ = some (.int .i64 k.du) := (cell_of_row _ _ _ _ _ _ R0.out).trans rfl
  have HB := Lib.hid (show Below w.heap.size w (w.alloc (.cells k.cells 27)) from below_more (Below.refl _ _) _)
  have HI := Lib.hid (link_info2 k)
  have dg0 : decide (k.id < 1) = false := by simp; omega
  have dg1 : decide (65535 < k.id) = false := by simp; omega
  have dg2 : decide (k.ot < 0) = false := by simp; omega
  have dg3 : decide (65535 < k.ot) = true := by simp; omega
  rw [hs] at s12
  clear hs
  go_enter Try.func32, Try.ntmps32
  go_wp2_with (first
    | (with_reducible refine wpList_load_row rfl 27 (.tmp 1) rfl w.heap.size rfl 27 k.cells (0, 0) _ R0.out Try.underlying27 rfl HI.out ?_)
    | ((with_reducible refine wpList_load_subG ?_ 27 (.tmp 1) rfl w.heap.size 0 rfl k.cells _ (range_row R0.out) Try.underlying27 rfl HI.out ?_); (as_aux_lemma => kernel_rfl))
    | (go_at_call 51; (with_reducible refine (KN.out _).mono ?_); rintro e w' ⟨rfl, hb⟩; replace R0 := Lib.hid (row_below hb R0.out); replace HB := Lib.hid (below_step HB.out hb); replace s12 := below_kept hb s12; replace s14 := below_kept hb s14; replace s15 := below_kept hb s15; replace s16 := below_kept hb s16; clear hb)
    | (go_at_call 46; (with_reducible refine (KW.out _).mono ?_); rintro e w' ⟨rfl, hb⟩; replace R0 := Lib.hid (row_below hb R0.out); replace HB := Lib.hid (below_step HB.out hb); replace s12 := below_kept hb s12; replace s14 := below_kept hb s14; replace s15 := below_kept hb s15; replace s16 := below_kept hb s16; clear hb))
  go_ret
  exact ⟨rfl, HB.out⟩
set_option maxHeartbeats 2000000 in
theorem rc_2_4 (k : Lk) (hB : k.By) (hs : k.st = 2) (hsame : k.same = false) (g0 : 1 ≤ k.id) (g1 : k.id ≤ 65535) (g2 : 0 ≤ k.ot) (g3 : k.ot ≤ 65535) (g4 : k.ot = 0) (w : World) : Calls Try.prog 32 #[.agg k.cells] w fun e w' => e = .returned (.int .i64 8) ∧ Below w.heap.size w w' := by
  have KN := Lib.hid (fun W => show Calls Try.prog 51 #[.agg k.cells] W (fun e w' => e = .returned (.bool true) ∧ Below W.heap.size W w') from by have h := known_any k W; rw [show knownB k = true by simp only [knownB, hs]; rfl] at h; exact h)
  have KW := Lib.hid (fun W => show Calls Try.prog 46 #[.agg k.cells] W (fun e w' => e = .returned (.bool true) ∧ Below W.heap.size W w') from by have h := waits_any k W; rw [show waitsB k = true by simp only [waitsB, hs]; rfl] at h; exact h)
  have E := eql_addr k.o0 k.o1 k.o2 k.o3 k.o4 k.o5 k.p0 k.p1 k.p2 k.p3 k.p4 k.p5 hB.o0 hB.o1 hB.o2 hB.o3 hB.o4 hB.o5 hB.p0 hB.p1 hB.p2 hB.p3 hB.p4 hB.p5
  rw [show addrB k.o0 k.o1 k.o2 k.o3 k.o4 k.o5 k.p0 k.p1 k.p2 k.p3 k.p4 k.p5 = false from hsame] at E
  clear hsame hB
  have R0 := Lib.hid (fr_rows1 w (.cells k.cells 27))
  have a0 : (w.alloc (.cells k.cells 27)).cell? ⟨w.heap.size, 0, none⟩ = some (.int .u8 k.o0) := (cell_of_row _ _ _ _ _ _ R0.out).trans rfl
  have a1 : (w.alloc (.cells k.cells 27)).cell? ⟨w.heap.size, 1, none⟩ = some (.int .u8 k.o1) := (cell_of_row _ _ _ _ _ _ R0.out).trans rfl
  have a2 : (w.alloc (.cells k.cells 27)).cell? ⟨w.heap.size, 2, none⟩ = some (.int .u8 k.o2) := (cell_of_row _ _ _ _ _ _ R0.out).trans rfl
  have a3 : (w.alloc (.cells k.cells 27)).cell? ⟨w.heap.size, 3, none⟩ = some (.int .u8 k.o3) := (cell_of_row _ _ _ _ _ _ R0.out).trans rfl
  have a4 : (w.alloc (.cells k.cells 27)).cell? ⟨w.heap.size, 4, none⟩ = some (.int .u8 k.o4) := (cell_of_row _ _ _ _ _ _ R0.out).trans rfl
  have a5 : (w.alloc (.cells k.cells 27)).cell? ⟨w.heap.size, 5, none⟩ = some (.int .u8 k.o5) := (cell_of_row _ _ _ _ _ _ R0.out).trans rfl
  have a6 : (w.alloc (.cells k.cells 27)).cell? ⟨w.heap.size, 6, none⟩ = some (.int .u8 k.p0) := (cell_of_row _ _ _ _ _ _ R0.out).trans rfl
  have a7 : (w.alloc (.cells k.cells 27)).cell? ⟨w.heap.size, 7, none⟩ = some (.int .u8 k.p1) := (cell_of_row _ _ _ _ _ _ R0.out).trans rfl
  have a8 : (w.alloc (.cells k.cells 27)).cell? ⟨w.heap.size, 8, none⟩ = some (.int .u8 k.p2) := (cell_of_row _ _ _ _ _ _ R0.out).trans rfl
  have a9 : (w.alloc (.cells k.cells 27)).cell? ⟨w.heap.size, 9, none⟩ = some (.int .u8 k.p3) := (cell_of_row _ _ _ _ _ _ R0.out).trans rfl
  have a10 : (w.alloc (.cells k.cells 27)).cell? ⟨w.heap.size, 10, none⟩ = some (.int .u8 k.p4) := (cell_of_row _ _ _ _ _ _ R0.out).trans rfl
  have a11 : (w.alloc (.cells k.cells 27)).cell? ⟨w.heap.size, 11, none⟩ = some (.int .u8 k.p5) := (cell_of_row _ _ _ _ _ _ R0.out).trans rfl
  have s12 : (w.alloc (.cells k.cells 27)).cell? ⟨w.heap.size, 12, none⟩ = some (.int .u8 k.st) := (cell_of_row _ _ _ _ _ _ R0.out).trans rfl
  have s13 : (w.alloc (.cells k.cells 27)).cell? ⟨w.heap.size, 13, none⟩ = some (.int .i64 k.id) := (cell_of_row _ _ _ _ _ _ R0.out).trans rfl
  have s14 : (w.alloc (.cells k.cells 27)).cell? ⟨w.heap.size, 14, none⟩ = some (.int .i64 k.ot) := (cell_of_row _ _ _ _ _ _ R0.out).trans rfl
  have s15 : (w.alloc (.cells k.cells 27)).cell? ⟨w.heap.size, 15, none⟩ = some (.int .i64 k.tr) := (cell_of_row _ _ _ _ _ _ R0.out).trans rfl
  have s16 : (w.alloc (.cells k.cells 27)).cell? ⟨w.heap.size, 16, none⟩ = some (.int .i64 k.du) := (cell_of_row _ _ _ _ _ _ R0.out).trans rfl
  have HB := Lib.hid (show Below w.heap.size w (w.alloc (.cells k.cells 27)) from below_more (Below.refl _ _) _)
  have HI := Lib.hid (link_info2 k)
  have dg0 : decide (k.id < 1) = false := by simp; omega
  have dg1 : decide (65535 < k.id) = false := by simp; omega
  have dg2 : decide (k.ot < 0) = false := by simp; omega
  have dg3 : decide (65535 < k.ot) = false := by simp; omega
  have dg4 : (k.ot == 0) = true := by simpa using g4
  have eg4 : (k.ot != 0) = false := by simpa using g4
  rw [hs] at s12
  clear hs
  go_enter Try.func32, Try.ntmps32
  go_wp2_with (first
    | (with_reducible refine wpList_load_row rfl 27 (.tmp 1) rfl w.heap.size rfl 27 k.cells (0, 0) _ R0.out Try.underlying27 rfl HI.out ?_)
    | ((with_reducible refine wpList_load_subG ?_ 27 (.tmp 1) rfl w.heap.size 0 rfl k.cells _ (range_row R0.out) Try.underlying27 rfl HI.out ?_); (as_aux_lemma => kernel_rfl))
    | (go_at_call 51; (with_reducible refine (KN.out _).mono ?_); rintro e w' ⟨rfl, hb⟩; replace R0 := Lib.hid (row_below hb R0.out); replace HB := Lib.hid (below_step HB.out hb); replace s12 := below_kept hb s12; replace s14 := below_kept hb s14; replace s15 := below_kept hb s15; replace s16 := below_kept hb s16; clear hb)
    | (go_at_call 46; (with_reducible refine (KW.out _).mono ?_); rintro e w' ⟨rfl, hb⟩; replace R0 := Lib.hid (row_below hb R0.out); replace HB := Lib.hid (below_step HB.out hb); replace s12 := below_kept hb s12; replace s14 := below_kept hb s14; replace s15 := below_kept hb s15; replace s16 := below_kept hb s16; clear hb))
  go_ret
  exact ⟨rfl, HB.out⟩
set_option maxHeartbeats 2000000 in
theorem rc_2_5 (k : Lk) (hB : k.By) (hs : k.st = 2) (hsame : k.same = false) (g0 : 1 ≤ k.id) (g1 : k.id ≤ 65535) (g2 : 0 ≤ k.ot) (g3 : k.ot ≤ 65535) (g4 : k.ot ≠ 0) (g5 : k.tr < 1) (w : World) : Calls Try.prog 32 #[.agg k.cells] w fun e w' => e = .returned (.int .i64 8) ∧ Below w.heap.size w w' := by
  have KN := Lib.hid (fun W => show Calls Try.prog 51 #[.agg k.cells] W (fun e w' => e = .returned (.bool true) ∧ Below W.heap.size W w') from by have h := known_any k W; rw [show knownB k = true by simp only [knownB, hs]; rfl] at h; exact h)
  have KW := Lib.hid (fun W => show Calls Try.prog 46 #[.agg k.cells] W (fun e w' => e = .returned (.bool true) ∧ Below W.heap.size W w') from by have h := waits_any k W; rw [show waitsB k = true by simp only [waitsB, hs]; rfl] at h; exact h)
  have E := eql_addr k.o0 k.o1 k.o2 k.o3 k.o4 k.o5 k.p0 k.p1 k.p2 k.p3 k.p4 k.p5 hB.o0 hB.o1 hB.o2 hB.o3 hB.o4 hB.o5 hB.p0 hB.p1 hB.p2 hB.p3 hB.p4 hB.p5
  rw [show addrB k.o0 k.o1 k.o2 k.o3 k.o4 k.o5 k.p0 k.p1 k.p2 k.p3 k.p4 k.p5 = false from hsame] at E
  clear hsame hB
  have R0 := Lib.hid (fr_rows1 w (.cells k.cells 27))
  have a0 : (w.alloc (.cells k.cells 27)).cell? ⟨w.heap.size, 0, none⟩ = some (.int .u8 k.o0) := (cell_of_row _ _ _ _ _ _ R0.out).trans rfl
  have a1 : (w.alloc (.cells k.cells 27)).cell? ⟨w.heap.size, 1, none⟩ = some (.int .u8 k.o1) := (cell_of_row _ _ _ _ _ _ R0.out).trans rfl
  have a2 : (w.alloc (.cells k.cells 27)).cell? ⟨w.heap.size, 2, none⟩ = some (.int .u8 k.o2) := (cell_of_row _ _ _ _ _ _ R0.out).trans rfl
  have a3 : (w.alloc (.cells k.cells 27)).cell? ⟨w.heap.size, 3, none⟩ = some (.int .u8 k.o3) := (cell_of_row _ _ _ _ _ _ R0.out).trans rfl
  have a4 : (w.alloc (.cells k.cells 27)).cell? ⟨w.heap.size, 4, none⟩ = some (.int .u8 k.o4) := (cell_of_row _ _ _ _ _ _ R0.out).trans rfl
  have a5 : (w.alloc (.cells k.cells 27)).cell? ⟨w.heap.size, 5, none⟩ = some (.int .u8 k.o5) := (cell_of_row _ _ _ _ _ _ R0.out).trans rfl
  have a6 : (w.alloc (.cells k.cells 27)).cell? ⟨w.heap.size, 6, none⟩ = some (.int .u8 k.p0) := (cell_of_row _ _ _ _ _ _ R0.out).trans rfl
  have a7 : (w.alloc (.cells k.cells 27)).cell? ⟨w.heap.size, 7, none⟩ = some (.int .u8 k.p1) := (cell_of_row _ _ _ _ _ _ R0.out).trans rfl
  have a8 : (w.alloc (.cells k.cells 27)).cell? ⟨w.heap.size, 8, none⟩ = some (.int .u8 k.p2) := (cell_of_row _ _ _ _ _ _ R0.out).trans rfl
  have a9 : (w.alloc (.cells k.cells 27)).cell? ⟨w.heap.size, 9, none⟩ = some (.int .u8 k.p3) := (cell_of_row _ _ _ _ _ _ R0.out).trans rfl
  have a10 : (w.alloc (.cells k.cells 27)).cell? ⟨w.heap.size, 10, none⟩ = some (.int .u8 k.p4) := (cell_of_row _ _ _ _ _ _ R0.out).trans rfl
  have a11 : (w.alloc (.cells k.cells 27)).cell? ⟨w.heap.size, 11, none⟩ = some (.int .u8 k.p5) := (cell_of_row _ _ _ _ _ _ R0.out).trans rfl
  have s12 : (w.alloc (.cells k.cells 27)).cell? ⟨w.heap.size, 12, none⟩ = some (.int .u8 k.st) := (cell_of_row _ _ _ _ _ _ R0.out).trans rfl
  have s13 : (w.alloc (.cells k.cells 27)).cell? ⟨w.heap.size, 13, none⟩ = some (.int .i64 k.id) := (cell_of_row _ _ _ _ _ _ R0.out).trans rfl
  have s14 : (w.alloc (.cells k.cells 27)).cell? ⟨w.heap.size, 14, none⟩ = some (.int .i64 k.ot) := (cell_of_row _ _ _ _ _ _ R0.out).trans rfl
  have s15 : (w.alloc (.cells k.cells 27)).cell? ⟨w.heap.size, 15, none⟩ = some (.int .i64 k.tr) := (cell_of_row _ _ _ _ _ _ R0.out).trans rfl
  have s16 : (w.alloc (.cells k.cells 27)).cell? ⟨w.heap.size, 16, none⟩ = some (.int .i64 k.du) := (cell_of_row _ _ _ _ _ _ R0.out).trans rfl
  have HB := Lib.hid (show Below w.heap.size w (w.alloc (.cells k.cells 27)) from below_more (Below.refl _ _) _)
  have HI := Lib.hid (link_info2 k)
  have dg0 : decide (k.id < 1) = false := by simp; omega
  have dg1 : decide (65535 < k.id) = false := by simp; omega
  have dg2 : decide (k.ot < 0) = false := by simp; omega
  have dg3 : decide (65535 < k.ot) = false := by simp; omega
  have dg4 : (k.ot == 0) = false := by simpa using g4
  have eg4 : (k.ot != 0) = true := by simpa using g4
  have dg5 : decide (k.tr < 1) = true := by simp; omega
  rw [hs] at s12
  clear hs
  go_enter Try.func32, Try.ntmps32
  go_wp2_with (first
    | (with_reducible refine wpList_load_row rfl 27 (.tmp 1) rfl w.heap.size rfl 27 k.cells (0, 0) _ R0.out Try.underlying27 rfl HI.out ?_)
    | ((with_reducible refine wpList_load_subG ?_ 27 (.tmp 1) rfl w.heap.size 0 rfl k.cells _ (range_row R0.out) Try.underlying27 rfl HI.out ?_); (as_aux_lemma => kernel_rfl))
    | (go_at_call 51; (with_reducible refine (KN.out _).mono ?_); rintro e w' ⟨rfl, hb⟩; replace R0 := Lib.hid (row_below hb R0.out); replace HB := Lib.hid (below_step HB.out hb); replace s12 := below_kept hb s12; replace s14 := below_kept hb s14; replace s15 := below_kept hb s15; replace s16 := below_kept hb s16; clear hb)
    | (go_at_call 46; (with_reducible refine (KW.out _).mono ?_); rintro e w' ⟨rfl, hb⟩; replace R0 := Lib.hid (row_below hb R0.out); replace HB := Lib.hid (below_step HB.out hb); replace s12 := below_kept hb s12; replace s14 := below_kept hb s14; replace s15 := below_kept hb s15; replace s16 := below_kept hb s16; clear hb))
  go_ret
  exact ⟨rfl, HB.out⟩
set_option maxHeartbeats 2000000 in
theorem rc_2_6 (k : Lk) (hB : k.By) (hs : k.st = 2) (hsame : k.same = false) (g0 : 1 ≤ k.id) (g1 : k.id ≤ 65535) (g2 : 0 ≤ k.ot) (g3 : k.ot ≤ 65535) (g4 : k.ot ≠ 0) (g5 : 1 ≤ k.tr) (g6 : 3 < k.tr) (w : World) : Calls Try.prog 32 #[.agg k.cells] w fun e w' => e = .returned (.int .i64 8) ∧ Below w.heap.size w w' := by
  have KN := Lib.hid (fun W => show Calls Try.prog 51 #[.agg k.cells] W (fun e w' => e = .returned (.bool true) ∧ Below W.heap.size W w') from by have h := known_any k W; rw [show knownB k = true by simp only [knownB, hs]; rfl] at h; exact h)
  have KW := Lib.hid (fun W => show Calls Try.prog 46 #[.agg k.cells] W (fun e w' => e = .returned (.bool true) ∧ Below W.heap.size W w') from by have h := waits_any k W; rw [show waitsB k = true by simp only [waitsB, hs]; rfl] at h; exact h)
  have E := eql_addr k.o0 k.o1 k.o2 k.o3 k.o4 k.o5 k.p0 k.p1 k.p2 k.p3 k.p4 k.p5 hB.o0 hB.o1 hB.o2 hB.o3 hB.o4 hB.o5 hB.p0 hB.p1 hB.p2 hB.p3 hB.p4 hB.p5
  rw [show addrB k.o0 k.o1 k.o2 k.o3 k.o4 k.o5 k.p0 k.p1 k.p2 k.p3 k.p4 k.p5 = false from hsame] at E
  clear hsame hB
  have R0 := Lib.hid (fr_rows1 w (.cells k.cells 27))
  have a0 : (w.alloc (.cells k.cells 27)).cell? ⟨w.heap.size, 0, none⟩ = some (.int .u8 k.o0) := (cell_of_row _ _ _ _ _ _ R0.out).trans rfl
  have a1 : (w.alloc (.cells k.cells 27)).cell? ⟨w.heap.size, 1, none⟩ = some (.int .u8 k.o1) := (cell_of_row _ _ _ _ _ _ R0.out).trans rfl
  have a2 : (w.alloc (.cells k.cells 27)).cell? ⟨w.heap.size, 2, none⟩ = some (.int .u8 k.o2) := (cell_of_row _ _ _ _ _ _ R0.out).trans rfl
  have a3 : (w.alloc (.cells k.cells 27)).cell? ⟨w.heap.size, 3, none⟩ = some (.int .u8 k.o3) := (cell_of_row _ _ _ _ _ _ R0.out).trans rfl
  have a4 : (w.alloc (.cells k.cells 27)).cell? ⟨w.heap.size, 4, none⟩ = some (.int .u8 k.o4) := (cell_of_row _ _ _ _ _ _ R0.out).trans rfl
  have a5 : (w.alloc (.cells k.cells 27)).cell? ⟨w.heap.size, 5, none⟩ = some (.int .u8 k.o5) := (cell_of_row _ _ _ _ _ _ R0.out).trans rfl
  have a6 : (w.alloc (.cells k.cells 27)).cell? ⟨w.heap.size, 6, none⟩ = some (.int .u8 k.p0) := (cell_of_row _ _ _ _ _ _ R0.out).trans rfl
  have a7 : (w.alloc (.cells k.cells 27)).cell? ⟨w.heap.size, 7, none⟩ = some (.int .u8 k.p1) := (cell_of_row _ _ _ _ _ _ R0.out).trans rfl
  have a8 : (w.alloc (.cells k.cells 27)).cell? ⟨w.heap.size, 8, none⟩ = some (.int .u8 k.p2) := (cell_of_row _ _ _ _ _ _ R0.out).trans rfl
  have a9 : (w.alloc (.cells k.cells 27)).cell? ⟨w.heap.size, 9, none⟩ = some (.int .u8 k.p3) := (cell_of_row _ _ _ _ _ _ R0.out).trans rfl
  have a10 : (w.alloc (.cells k.cells 27)).cell? ⟨w.heap.size, 10, none⟩ = some (.int .u8 k.p4) := (cell_of_row _ _ _ _ _ _ R0.out).trans rfl
  have a11 : (w.alloc (.cells k.cells 27)).cell? ⟨w.heap.size, 11, none⟩ = some (.int .u8 k.p5) := (cell_of_row _ _ _ _ _ _ R0.out).trans rfl
  have s12 : (w.alloc (.cells k.cells 27)).cell? ⟨w.heap.size, 12, none⟩ = some (.int .u8 k.st) := (cell_of_row _ _ _ _ _ _ R0.out).trans rfl
  have s13 : (w.alloc (.cells k.cells 27)).cell? ⟨w.heap.size, 13, none⟩ = some (.int .i64 k.id) := (cell_of_row _ _ _ _ _ _ R0.out).trans rfl
  have s14 : (w.alloc (.cells k.cells 27)).cell? ⟨w.heap.size, 14, none⟩ = some (.int .i64 k.ot) := (cell_of_row _ _ _ _ _ _ R0.out).trans rfl
  have s15 : (w.alloc (.cells k.cells 27)).cell? ⟨w.heap.size, 15, none⟩ = some (.int .i64 k.tr) := (cell_of_row _ _ _ _ _ _ R0.out).trans rfl
  have s16 : (w.alloc (.cells k.cells 27)).cell? ⟨w.heap.size, 16, none⟩ = some (.int .i64 k.du) := (cell_of_row _ _ _ _ _ _ R0.out).trans rfl
  have HB := Lib.hid (show Below w.heap.size w (w.alloc (.cells k.cells 27)) from below_more (Below.refl _ _) _)
  have HI := Lib.hid (link_info2 k)
  have dg0 : decide (k.id < 1) = false := by simp; omega
  have dg1 : decide (65535 < k.id) = false := by simp; omega
  have dg2 : decide (k.ot < 0) = false := by simp; omega
  have dg3 : decide (65535 < k.ot) = false := by simp; omega
  have dg4 : (k.ot == 0) = false := by simpa using g4
  have eg4 : (k.ot != 0) = true := by simpa using g4
  have dg5 : decide (k.tr < 1) = false := by simp; omega
  have dg6 : decide (3 < k.tr) = true := by simp; omega
  rw [hs] at s12
  clear hs
  go_enter Try.func32, Try.ntmps32
  go_wp2_with (first
    | (with_reducible refine wpList_load_row rfl 27 (.tmp 1) rfl w.heap.size rfl 27 k.cells (0, 0) _ R0.out Try.underlying27 rfl HI.out ?_)
    | ((with_reducible refine wpList_load_subG ?_ 27 (.tmp 1) rfl w.heap.size 0 rfl k.cells _ (range_row R0.out) Try.underlying27 rfl HI.out ?_); (as_aux_lemma => kernel_rfl))
    | (go_at_call 51; (with_reducible refine (KN.out _).mono ?_); rintro e w' ⟨rfl, hb⟩; replace R0 := Lib.hid (row_below hb R0.out); replace HB := Lib.hid (below_step HB.out hb); replace s12 := below_kept hb s12; replace s14 := below_kept hb s14; replace s15 := below_kept hb s15; replace s16 := below_kept hb s16; clear hb)
    | (go_at_call 46; (with_reducible refine (KW.out _).mono ?_); rintro e w' ⟨rfl, hb⟩; replace R0 := Lib.hid (row_below hb R0.out); replace HB := Lib.hid (below_step HB.out hb); replace s12 := below_kept hb s12; replace s14 := below_kept hb s14; replace s15 := below_kept hb s15; replace s16 := below_kept hb s16; clear hb))
  go_ret
  exact ⟨rfl, HB.out⟩
set_option maxHeartbeats 2000000 in
theorem rc_2_7 (k : Lk) (hB : k.By) (hs : k.st = 2) (hsame : k.same = false) (g0 : 1 ≤ k.id) (g1 : k.id ≤ 65535) (g2 : 0 ≤ k.ot) (g3 : k.ot ≤ 65535) (g4 : k.ot ≠ 0) (g5 : 1 ≤ k.tr) (g6 : k.tr ≤ 3) (g7 : k.du < 1) (w : World) : Calls Try.prog 32 #[.agg k.cells] w fun e w' => e = .returned (.int .i64 8) ∧ Below w.heap.size w w' := by
  have KN := Lib.hid (fun W => show Calls Try.prog 51 #[.agg k.cells] W (fun e w' => e = .returned (.bool true) ∧ Below W.heap.size W w') from by have h := known_any k W; rw [show knownB k = true by simp only [knownB, hs]; rfl] at h; exact h)
  have KW := Lib.hid (fun W => show Calls Try.prog 46 #[.agg k.cells] W (fun e w' => e = .returned (.bool true) ∧ Below W.heap.size W w') from by have h := waits_any k W; rw [show waitsB k = true by simp only [waitsB, hs]; rfl] at h; exact h)
  have E := eql_addr k.o0 k.o1 k.o2 k.o3 k.o4 k.o5 k.p0 k.p1 k.p2 k.p3 k.p4 k.p5 hB.o0 hB.o1 hB.o2 hB.o3 hB.o4 hB.o5 hB.p0 hB.p1 hB.p2 hB.p3 hB.p4 hB.p5
  rw [show addrB k.o0 k.o1 k.o2 k.o3 k.o4 k.o5 k.p0 k.p1 k.p2 k.p3 k.p4 k.p5 = false from hsame] at E
  clear hsame hB
  have R0 := Lib.hid (fr_rows1 w (.cells k.cells 27))
  have a0 : (w.alloc (.cells k.cells 27)).cell? ⟨w.heap.size, 0, none⟩ = some (.int .u8 k.o0) := (cell_of_row _ _ _ _ _ _ R0.out).trans rfl
  have a1 : (w.alloc (.cells k.cells 27)).cell? ⟨w.heap.size, 1, none⟩ = some (.int .u8 k.o1) := (cell_of_row _ _ _ _ _ _ R0.out).trans rfl
  have a2 : (w.alloc (.cells k.cells 27)).cell? ⟨w.heap.size, 2, none⟩ = some (.int .u8 k.o2) := (cell_of_row _ _ _ _ _ _ R0.out).trans rfl
  have a3 : (w.alloc (.cells k.cells 27)).cell? ⟨w.heap.size, 3, none⟩ = some (.int .u8 k.o3) := (cell_of_row _ _ _ _ _ _ R0.out).trans rfl
  have a4 : (w.alloc (.cells k.cells 27)).cell? ⟨w.heap.size, 4, none⟩ = some (.int .u8 k.o4) := (cell_of_row _ _ _ _ _ _ R0.out).trans rfl
  have a5 : (w.alloc (.cells k.cells 27)).cell? ⟨w.heap.size, 5, none⟩ = some (.int .u8 k.o5) := (cell_of_row _ _ _ _ _ _ R0.out).trans rfl
  have a6 : (w.alloc (.cells k.cells 27)).cell? ⟨w.heap.size, 6, none⟩ = some (.int .u8 k.p0) := (cell_of_row _ _ _ _ _ _ R0.out).trans rfl
  have a7 : (w.alloc (.cells k.cells 27)).cell? ⟨w.heap.size, 7, none⟩ = some (.int .u8 k.p1) := (cell_of_row _ _ _ _ _ _ R0.out).trans rfl
  have a8 : (w.alloc (.cells k.cells 27)).cell? ⟨w.heap.size, 8, none⟩ = some (.int .u8 k.p2) := (cell_of_row _ _ _ _ _ _ R0.out).trans rfl
  have a9 : (w.alloc (.cells k.cells 27)).cell? ⟨w.heap.size, 9, none⟩ = some (.int .u8 k.p3) := (cell_of_row _ _ _ _ _ _ R0.out).trans rfl
  have a10 : (w.alloc (.cells k.cells 27)).cell? ⟨w.heap.size, 10, none⟩ = some (.int .u8 k.p4) := (cell_of_row _ _ _ _ _ _ R0.out).trans rfl
  have a11 : (w.alloc (.cells k.cells 27)).cell? ⟨w.heap.size, 11, none⟩ = some (.int .u8 k.p5) := (cell_of_row _ _ _ _ _ _ R0.out).trans rfl
  have s12 : (w.alloc (.cells k.cells 27)).cell? ⟨w.heap.size, 12, none⟩ = some (.int .u8 k.st) := (cell_of_row _ _ _ _ _ _ R0.out).trans rfl
  have s13 : (w.alloc (.cells k.cells 27)).cell? ⟨w.heap.size, 13, none⟩ = some (.int .i64 k.id) := (cell_of_row _ _ _ _ _ _ R0.out).trans rfl
  have s14 : (w.alloc (.cells k.cells 27)).cell? ⟨w.heap.size, 14, none⟩ = some (.int .i64 k.ot) := (cell_of_row _ _ _ _ _ _ R0.out).trans rfl
  have s15 : (w.alloc (.cells k.cells 27)).cell? ⟨w.heap.size, 15, none⟩ = some (.int .i64 k.tr) := (cell_of_row _ _ _ _ _ _ R0.out).trans rfl
  have s16 : (w.alloc (.cells k.cells 27)).cell? ⟨w.heap.size, 16, none⟩ = some (.int .i64 k.du) := (cell_of_row _ _ _ _ _ _ R0.out).trans rfl
  have HB := Lib.hid (show Below w.heap.size w (w.alloc (.cells k.cells 27)) from below_more (Below.refl _ _) _)
  have HI := Lib.hid (link_info2 k)
  have dg0 : decide (k.id < 1) = false := by simp; omega
  have dg1 : decide (65535 < k.id) = false := by simp; omega
  have dg2 : decide (k.ot < 0) = false := by simp; omega
  have dg3 : decide (65535 < k.ot) = false := by simp; omega
  have dg4 : (k.ot == 0) = false := by simpa using g4
  have eg4 : (k.ot != 0) = true := by simpa using g4
  have dg5 : decide (k.tr < 1) = false := by simp; omega
  have dg6 : decide (3 < k.tr) = false := by simp; omega
  have dg7 : decide (k.du < 1) = true := by simp; omega
  rw [hs] at s12
  clear hs
  go_enter Try.func32, Try.ntmps32
  go_wp2_with (first
    | (with_reducible refine wpList_load_row rfl 27 (.tmp 1) rfl w.heap.size rfl 27 k.cells (0, 0) _ R0.out Try.underlying27 rfl HI.out ?_)
    | ((with_reducible refine wpList_load_subG ?_ 27 (.tmp 1) rfl w.heap.size 0 rfl k.cells _ (range_row R0.out) Try.underlying27 rfl HI.out ?_); (as_aux_lemma => kernel_rfl))
    | (go_at_call 51; (with_reducible refine (KN.out _).mono ?_); rintro e w' ⟨rfl, hb⟩; replace R0 := Lib.hid (row_below hb R0.out); replace HB := Lib.hid (below_step HB.out hb); replace s12 := below_kept hb s12; replace s14 := below_kept hb s14; replace s15 := below_kept hb s15; replace s16 := below_kept hb s16; clear hb)
    | (go_at_call 46; (with_reducible refine (KW.out _).mono ?_); rintro e w' ⟨rfl, hb⟩; replace R0 := Lib.hid (row_below hb R0.out); replace HB := Lib.hid (below_step HB.out hb); replace s12 := below_kept hb s12; replace s14 := below_kept hb s14; replace s15 := below_kept hb s15; replace s16 := below_kept hb s16; clear hb))
  go_ret
  exact ⟨rfl, HB.out⟩
set_option maxHeartbeats 2000000 in
theorem rc_2_8 (k : Lk) (hB : k.By) (hs : k.st = 2) (hsame : k.same = false) (g0 : 1 ≤ k.id) (g1 : k.id ≤ 65535) (g2 : 0 ≤ k.ot) (g3 : k.ot ≤ 65535) (g4 : k.ot ≠ 0) (g5 : 1 ≤ k.tr) (g6 : k.tr ≤ 3) (g7 : 1 ≤ k.du) (g8 : 1099511667776 < k.du) (w : World) : Calls Try.prog 32 #[.agg k.cells] w fun e w' => e = .returned (.int .i64 8) ∧ Below w.heap.size w w' := by
  have KN := Lib.hid (fun W => show Calls Try.prog 51 #[.agg k.cells] W (fun e w' => e = .returned (.bool true) ∧ Below W.heap.size W w') from by have h := known_any k W; rw [show knownB k = true by simp only [knownB, hs]; rfl] at h; exact h)
  have KW := Lib.hid (fun W => show Calls Try.prog 46 #[.agg k.cells] W (fun e w' => e = .returned (.bool true) ∧ Below W.heap.size W w') from by have h := waits_any k W; rw [show waitsB k = true by simp only [waitsB, hs]; rfl] at h; exact h)
  have E := eql_addr k.o0 k.o1 k.o2 k.o3 k.o4 k.o5 k.p0 k.p1 k.p2 k.p3 k.p4 k.p5 hB.o0 hB.o1 hB.o2 hB.o3 hB.o4 hB.o5 hB.p0 hB.p1 hB.p2 hB.p3 hB.p4 hB.p5
  rw [show addrB k.o0 k.o1 k.o2 k.o3 k.o4 k.o5 k.p0 k.p1 k.p2 k.p3 k.p4 k.p5 = false from hsame] at E
  clear hsame hB
  have R0 := Lib.hid (fr_rows1 w (.cells k.cells 27))
  have a0 : (w.alloc (.cells k.cells 27)).cell? ⟨w.heap.size, 0, none⟩ = some (.int .u8 k.o0) := (cell_of_row _ _ _ _ _ _ R0.out).trans rfl
  have a1 : (w.alloc (.cells k.cells 27)).cell? ⟨w.heap.size, 1, none⟩ = some (.int .u8 k.o1) := (cell_of_row _ _ _ _ _ _ R0.out).trans rfl
  have a2 : (w.alloc (.cells k.cells 27)).cell? ⟨w.heap.size, 2, none⟩ = some (.int .u8 k.o2) := (cell_of_row _ _ _ _ _ _ R0.out).trans rfl
  have a3 : (w.alloc (.cells k.cells 27)).cell? ⟨w.heap.size, 3, none⟩ = some (.int .u8 k.o3) := (cell_of_row _ _ _ _ _ _ R0.out).trans rfl
  have a4 : (w.alloc (.cells k.cells 27)).cell? ⟨w.heap.size, 4, none⟩ = some (.int .u8 k.o4) := (cell_of_row _ _ _ _ _ _ R0.out).trans rfl
  have a5 : (w.alloc (.cells k.cells 27)).cell? ⟨w.heap.size, 5, none⟩ = some (.int .u8 k.o5) := (cell_of_row _ _ _ _ _ _ R0.out).trans rfl
  have a6 : (w.alloc (.cells k.cells 27)).cell? ⟨w.heap.size, 6, none⟩ = some (.int .u8 k.p0) := (cell_of_row _ _ _ _ _ _ R0.out).trans rfl
  have a7 : (w.alloc (.cells k.cells 27)).cell? ⟨w.heap.size, 7, none⟩ = some (.int .u8 k.p1) := (cell_of_row _ _ _ _ _ _ R0.out).trans rfl
  have a8 : (w.alloc (.cells k.cells 27)).cell? ⟨w.heap.size, 8, none⟩ = some (.int .u8 k.p2) := (cell_of_row _ _ _ _ _ _ R0.out).trans rfl
  have a9 : (w.alloc (.cells k.cells 27)).cell? ⟨w.heap.size, 9, none⟩ = some (.int .u8 k.p3) := (cell_of_row _ _ _ _ _ _ R0.out).trans rfl
  have a10 : (w.alloc (.cells k.cells 27)).cell? ⟨w.heap.size, 10, none⟩ = some (.int .u8 k.p4) := (cell_of_row _ _ _ _ _ _ R0.out).trans rfl
  have a11 : (w.alloc (.cells k.cells 27)).cell? ⟨w.heap.size, 11, none⟩ = some (.int .u8 k.p5) := (cell_of_row _ _ _ _ _ _ R0.out).trans rfl
  have s12 : (w.alloc (.cells k.cells 27)).cell? ⟨w.heap.size, 12, none⟩ = some (.int .u8 k.st) := (cell_of_row _ _ _ _ _ _ R0.out).trans rfl
  have s13 : (w.alloc (.cells k.cells 27)).cell? ⟨w.heap.size, 13, none⟩ = some (.int .i64 k.id) := (cell_of_row _ _ _ _ _ _ R0.out).trans rfl
  have s14 : (w.alloc (.cells k.cells 27)).cell? ⟨w.heap.size, 14, none⟩ = some (.int .i64 k.ot) := (cell_of_row _ _ _ _ _ _ R0.out).trans rfl
  have s15 : (w.alloc (.cells k.cells 27)).cell? ⟨w.heap.size, 15, none⟩ = some (.int .i64 k.tr) := (cell_of_row _ _ _ _ _ _ R0.out).trans rfl
  have s16 : (w.alloc (.cells k.cells 27)).cell? ⟨w.heap.size, 16, none⟩ = some (.int .i64 k.du) := (cell_of_row _ _ _ _ _ _ R0.out).trans rfl
  have HB := Lib.hid (show Below w.heap.size w (w.alloc (.cells k.cells 27)) from below_more (Below.refl _ _) _)
  have HI := Lib.hid (link_info2 k)
  have dg0 : decide (k.id < 1) = false := by simp; omega
  have dg1 : decide (65535 < k.id) = false := by simp; omega
  have dg2 : decide (k.ot < 0) = false := by simp; omega
  have dg3 : decide (65535 < k.ot) = false := by simp; omega
  have dg4 : (k.ot == 0) = false := by simpa using g4
  have eg4 : (k.ot != 0) = true := by simpa using g4
  have dg5 : decide (k.tr < 1) = false := by simp; omega
  have dg6 : decide (3 < k.tr) = false := by simp; omega
  have dg7 : decide (k.du < 1) = false := by simp; omega
  have dg8 : decide (1099511667776 < k.du) = true := by simp; omega
  rw [hs] at s12
  clear hs
  go_enter Try.func32, Try.ntmps32
  go_wp2_with (first
    | (with_reducible refine wpList_load_row rfl 27 (.tmp 1) rfl w.heap.size rfl 27 k.cells (0, 0) _ R0.out Try.underlying27 rfl HI.out ?_)
    | ((with_reducible refine wpList_load_subG ?_ 27 (.tmp 1) rfl w.heap.size 0 rfl k.cells _ (range_row R0.out) Try.underlying27 rfl HI.out ?_); (as_aux_lemma => kernel_rfl))
    | (go_at_call 51; (with_reducible refine (KN.out _).mono ?_); rintro e w' ⟨rfl, hb⟩; replace R0 := Lib.hid (row_below hb R0.out); replace HB := Lib.hid (below_step HB.out hb); replace s12 := below_kept hb s12; replace s14 := below_kept hb s14; replace s15 := below_kept hb s15; replace s16 := below_kept hb s16; clear hb)
    | (go_at_call 46; (with_reducible refine (KW.out _).mono ?_); rintro e w' ⟨rfl, hb⟩; replace R0 := Lib.hid (row_below hb R0.out); replace HB := Lib.hid (below_step HB.out hb); replace s12 := below_kept hb s12; replace s14 := below_kept hb s14; replace s15 := below_kept hb s15; replace s16 := below_kept hb s16; clear hb))
  go_ret
  exact ⟨rfl, HB.out⟩
set_option maxHeartbeats 2000000 in
theorem rc_2_ok (k : Lk) (hB : k.By) (hs : k.st = 2) (hsame : k.same = false) (g0 : 1 ≤ k.id) (g1 : k.id ≤ 65535) (g2 : 0 ≤ k.ot) (g3 : k.ot ≤ 65535) (g4 : k.ot ≠ 0) (g5 : 1 ≤ k.tr) (g6 : k.tr ≤ 3) (g7 : 1 ≤ k.du) (g8 : k.du ≤ 1099511667776) (w : World) : Calls Try.prog 32 #[.agg k.cells] w fun e w' => e = .returned (.int .i64 0) ∧ Below w.heap.size w w' := by
  have KN := Lib.hid (fun W => show Calls Try.prog 51 #[.agg k.cells] W (fun e w' => e = .returned (.bool true) ∧ Below W.heap.size W w') from by have h := known_any k W; rw [show knownB k = true by simp only [knownB, hs]; rfl] at h; exact h)
  have KW := Lib.hid (fun W => show Calls Try.prog 46 #[.agg k.cells] W (fun e w' => e = .returned (.bool true) ∧ Below W.heap.size W w') from by have h := waits_any k W; rw [show waitsB k = true by simp only [waitsB, hs]; rfl] at h; exact h)
  have E := eql_addr k.o0 k.o1 k.o2 k.o3 k.o4 k.o5 k.p0 k.p1 k.p2 k.p3 k.p4 k.p5 hB.o0 hB.o1 hB.o2 hB.o3 hB.o4 hB.o5 hB.p0 hB.p1 hB.p2 hB.p3 hB.p4 hB.p5
  rw [show addrB k.o0 k.o1 k.o2 k.o3 k.o4 k.o5 k.p0 k.p1 k.p2 k.p3 k.p4 k.p5 = false from hsame] at E
  clear hsame hB
  have R0 := Lib.hid (fr_rows1 w (.cells k.cells 27))
  have a0 : (w.alloc (.cells k.cells 27)).cell? ⟨w.heap.size, 0, none⟩ = some (.int .u8 k.o0) := (cell_of_row _ _ _ _ _ _ R0.out).trans rfl
  have a1 : (w.alloc (.cells k.cells 27)).cell? ⟨w.heap.size, 1, none⟩ = some (.int .u8 k.o1) := (cell_of_row _ _ _ _ _ _ R0.out).trans rfl
  have a2 : (w.alloc (.cells k.cells 27)).cell? ⟨w.heap.size, 2, none⟩ = some (.int .u8 k.o2) := (cell_of_row _ _ _ _ _ _ R0.out).trans rfl
  have a3 : (w.alloc (.cells k.cells 27)).cell? ⟨w.heap.size, 3, none⟩ = some (.int .u8 k.o3) := (cell_of_row _ _ _ _ _ _ R0.out).trans rfl
  have a4 : (w.alloc (.cells k.cells 27)).cell? ⟨w.heap.size, 4, none⟩ = some (.int .u8 k.o4) := (cell_of_row _ _ _ _ _ _ R0.out).trans rfl
  have a5 : (w.alloc (.cells k.cells 27)).cell? ⟨w.heap.size, 5, none⟩ = some (.int .u8 k.o5) := (cell_of_row _ _ _ _ _ _ R0.out).trans rfl
  have a6 : (w.alloc (.cells k.cells 27)).cell? ⟨w.heap.size, 6, none⟩ = some (.int .u8 k.p0) := (cell_of_row _ _ _ _ _ _ R0.out).trans rfl
  have a7 : (w.alloc (.cells k.cells 27)).cell? ⟨w.heap.size, 7, none⟩ = some (.int .u8 k.p1) := (cell_of_row _ _ _ _ _ _ R0.out).trans rfl
  have a8 : (w.alloc (.cells k.cells 27)).cell? ⟨w.heap.size, 8, none⟩ = some (.int .u8 k.p2) := (cell_of_row _ _ _ _ _ _ R0.out).trans rfl
  have a9 : (w.alloc (.cells k.cells 27)).cell? ⟨w.heap.size, 9, none⟩ = some (.int .u8 k.p3) := (cell_of_row _ _ _ _ _ _ R0.out).trans rfl
  have a10 : (w.alloc (.cells k.cells 27)).cell? ⟨w.heap.size, 10, none⟩ = some (.int .u8 k.p4) := (cell_of_row _ _ _ _ _ _ R0.out).trans rfl
  have a11 : (w.alloc (.cells k.cells 27)).cell? ⟨w.heap.size, 11, none⟩ = some (.int .u8 k.p5) := (cell_of_row _ _ _ _ _ _ R0.out).trans rfl
  have s12 : (w.alloc (.cells k.cells 27)).cell? ⟨w.heap.size, 12, none⟩ = some (.int .u8 k.st) := (cell_of_row _ _ _ _ _ _ R0.out).trans rfl
  have s13 : (w.alloc (.cells k.cells 27)).cell? ⟨w.heap.size, 13, none⟩ = some (.int .i64 k.id) := (cell_of_row _ _ _ _ _ _ R0.out).trans rfl
  have s14 : (w.alloc (.cells k.cells 27)).cell? ⟨w.heap.size, 14, none⟩ = some (.int .i64 k.ot) := (cell_of_row _ _ _ _ _ _ R0.out).trans rfl
  have s15 : (w.alloc (.cells k.cells 27)).cell? ⟨w.heap.size, 15, none⟩ = some (.int .i64 k.tr) := (cell_of_row _ _ _ _ _ _ R0.out).trans rfl
  have s16 : (w.alloc (.cells k.cells 27)).cell? ⟨w.heap.size, 16, none⟩ = some (.int .i64 k.du) := (cell_of_row _ _ _ _ _ _ R0.out).trans rfl
  have HB := Lib.hid (show Below w.heap.size w (w.alloc (.cells k.cells 27)) from below_more (Below.refl _ _) _)
  have HI := Lib.hid (link_info2 k)
  have dg0 : decide (k.id < 1) = false := by simp; omega
  have dg1 : decide (65535 < k.id) = false := by simp; omega
  have dg2 : decide (k.ot < 0) = false := by simp; omega
  have dg3 : decide (65535 < k.ot) = false := by simp; omega
  have dg4 : (k.ot == 0) = false := by simpa using g4
  have eg4 : (k.ot != 0) = true := by simpa using g4
  have dg5 : decide (k.tr < 1) = false := by simp; omega
  have dg6 : decide (3 < k.tr) = false := by simp; omega
  have dg7 : decide (k.du < 1) = false := by simp; omega
  have dg8 : decide (1099511667776 < k.du) = false := by simp; omega
  rw [hs] at s12
  clear hs
  go_enter Try.func32, Try.ntmps32
  go_wp2_with (first
    | (with_reducible refine wpList_load_row rfl 27 (.tmp 1) rfl w.heap.size rfl 27 k.cells (0, 0) _ R0.out Try.underlying27 rfl HI.out ?_)
    | ((with_reducible refine wpList_load_subG ?_ 27 (.tmp 1) rfl w.heap.size 0 rfl k.cells _ (range_row R0.out) Try.underlying27 rfl HI.out ?_); (as_aux_lemma => kernel_rfl))
    | (go_at_call 51; (with_reducible refine (KN.out _).mono ?_); rintro e w' ⟨rfl, hb⟩; replace R0 := Lib.hid (row_below hb R0.out); replace HB := Lib.hid (below_step HB.out hb); replace s12 := below_kept hb s12; replace s14 := below_kept hb s14; replace s15 := below_kept hb s15; replace s16 := below_kept hb s16; clear hb)
    | (go_at_call 46; (with_reducible refine (KW.out _).mono ?_); rintro e w' ⟨rfl, hb⟩; replace R0 := Lib.hid (row_below hb R0.out); replace HB := Lib.hid (below_step HB.out hb); replace s12 := below_kept hb s12; replace s14 := below_kept hb s14; replace s15 := below_kept hb s15; replace s16 := below_kept hb s16; clear hb))
  go_ret
  exact ⟨rfl, HB.out⟩
theorem refcheck_2 (k : Lk) (hB : k.By) (hs : k.st = 2) (w : World) : Calls Try.prog 32 #[.agg k.cells] w fun e w' => e = .returned (.int .i64 k.chk) ∧ Below w.heap.size w w' := by
  by_cases hsame : k.same = true
  · rw [chk_bad (fun h => by rw [hsame] at h; exact absurd h.1 (by decide))]
    exact rc_2_same k hB hs hsame w
  have hsm : k.same = false := by simpa using hsame
  by_cases g0 : k.id < 1
  · rw [chk_bad (fun h => by have h2 := h.2; simp only [Lk.Shape] at h2; omega)]
    exact rc_2_0 k hB hs hsm g0 w
  replace g0 : 1 ≤ k.id := by omega
  by_cases g1 : 65535 < k.id
  · rw [chk_bad (fun h => by have h2 := h.2; simp only [Lk.Shape] at h2; omega)]
    exact rc_2_1 k hB hs hsm g0 g1 w
  replace g1 : k.id ≤ 65535 := by omega
  by_cases g2 : k.ot < 0
  · rw [chk_bad (fun h => by have h2 := h.2; simp only [Lk.Shape] at h2; omega)]
    exact rc_2_2 k hB hs hsm g0 g1 g2 w
  replace g2 : 0 ≤ k.ot := by omega
  by_cases g3 : 65535 < k.ot
  · rw [chk_bad (fun h => by have h2 := h.2; simp only [Lk.Shape] at h2; omega)]
    exact rc_2_3 k hB hs hsm g0 g1 g2 g3 w
  replace g3 : k.ot ≤ 65535 := by omega
  by_cases g4 : k.ot = 0
  · rw [chk_bad (fun h => by have h2 := h.2; simp only [Lk.Shape] at h2; omega)]
    exact rc_2_4 k hB hs hsm g0 g1 g2 g3 g4 w
  replace g4 : k.ot ≠ 0 := by omega
  by_cases g5 : k.tr < 1
  · rw [chk_bad (fun h => by have h2 := h.2; simp only [Lk.Shape] at h2; omega)]
    exact rc_2_5 k hB hs hsm g0 g1 g2 g3 g4 g5 w
  replace g5 : 1 ≤ k.tr := by omega
  by_cases g6 : 3 < k.tr
  · rw [chk_bad (fun h => by have h2 := h.2; simp only [Lk.Shape] at h2; omega)]
    exact rc_2_6 k hB hs hsm g0 g1 g2 g3 g4 g5 g6 w
  replace g6 : k.tr ≤ 3 := by omega
  by_cases g7 : k.du < 1
  · rw [chk_bad (fun h => by have h2 := h.2; simp only [Lk.Shape] at h2; omega)]
    exact rc_2_7 k hB hs hsm g0 g1 g2 g3 g4 g5 g6 g7 w
  replace g7 : 1 ≤ k.du := by omega
  by_cases g8 : 1099511667776 < k.du
  · rw [chk_bad (fun h => by have h2 := h.2; simp only [Lk.Shape] at h2; omega)]
    exact rc_2_8 k hB hs hsm g0 g1 g2 g3 g4 g5 g6 g7 g8 w
  replace g8 : k.du ≤ 1099511667776 := by omega
  rw [(chk_shape k).2 ⟨hsm, ⟨by omega, by omega⟩, by simp only [Lk.Shape]; omega⟩]
  exact rc_2_ok k hB hs hsm g0 g1 g2 g3 g4 g5 g6 g7 g8 w
end Go.Proofs.Ytmighkgjbohieaa
