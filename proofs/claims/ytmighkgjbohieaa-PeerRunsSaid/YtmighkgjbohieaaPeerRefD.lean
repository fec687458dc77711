/-
  The contracts of the reference's Check for all links, and of before.
-/
import Derived.Test.YtmighkgjbohieaaPeerRefCa
import Derived.Test.YtmighkgjbohieaaPeerRefCb
set_option linter.unusedVariables false
set_option linter.unusedSimpArgs false
namespace Go.Proofs.Ytmighkgjbohieaa
open Go.ChangeShapes Go.WideShapes Go.ChangeAt Go.RowKit Go.Great

set_option maxHeartbeats 2000000 in
theorem rc_else_same (k : Lk) (hB : k.By) (hs : k.st = k.st) (hsame : k.same = true) (g0 : 5 < k.st) (w : World) : Calls Try.prog 32 #[.agg k.cells] w fun e w' => e = .returned (.int .i64 8) ∧ Below w.heap.size w w' := by
  have E := eql_addr k.o0 k.o1 k.o2 k.o3 k.o4 k.o5 k.p0 k.p1 k.p2 k.p3 k.p4 k.p5 hB.o0 hB.o1 hB.o2 hB.o3 hB.o4 hB.o5 hB.p0 hB.p1 hB.p2 hB.p3 hB.p4 hB.p5
  rw [show addrB k.o0 k.o1 k.o2 k.o3 k.o4 k.o5 k.p0 k.p1 k.p2 k.p3 k.p4 k.p5 = true from hsame] at E
  clear hsame hB
  have R0 := Lib.hid (fr_rows1 w (.cells k.cells 27))
  have a0 : (w.alloc (.cells k.cells 27)).cell? ⟨w.heap.size, 0, none⟩ = some (.int .u8 k.o0) := (cell_of_row _ _ _ _ _ _ R0.out).trans rfl
  have a1 : (w.alloc (.cells k.cells 27)).cell? ⟨w.heap.size, 1, none⟩ = some (.int .u8 k.o1) := (cell_of_row _ _ _ _ _ _ R0.out).trans rfl
  have a2 : (w.alloc (.cells k.cells 27)).cell? ⟨w.heap.size, 2, none⟩ = some (.int .u8 k.o2) := (cell_of_row _ _ _ _ _ _ R0.out).trans rfl
  have a3 : (w.alloc (.cells k.cells 27)).cell? ⟨w.heap.size, 3, none⟩ = some (.int .u8 k.o3) := (cell_of_row _ _ _ _ _ _ R0.out).trans rfl
  have a4 : (w.alloc (.cells k.cells 27)).cell? ⟨w.heap.size, 4, none⟩ = some (.int .u8 k.o4) := (cell_of_row _ _ _ _ _ _ R0.out).trans rfl
  have a5 : (w.alloc (.cells k.cells 27)).cell? ⟨w.heap.size, 5, none⟩ = some (.int .u8 k.o5) := (cell_of_row _ _ _ _ _ _ R0.out).trans rfl
  have a6 : (w.alloc (.cells k.cells 27)).cell? ⟨w.heap.size, 6, none⟩ = some (.int .u8 k.p0) := (cell_of_row _ _ _ _ _ _ R0.out).trans rfl
  have a7 : (w.alloc (.cells k.cells 27)).cell? ⟨w.heap.size, 7, none⟩ = some (.int .u8 k.p1) := (cell_of_row _ _ _ _ _ _ R0.out).trans rfl
  have a8 : (w.alloc (.cells k.cells 27)).cell? ⟨w.heap.size, 8, none⟩ = some (.int .u8 k.p2) := (cell_of_row _ _ _ _ _ _ R0.out).trans rfl
  have a9 : (w.alloc (.cells k.cells 27)).cell? ⟨w.heap.size, 9, none⟩ = some (.int .u8 k.p3) := (cell_of_row _ _ _ _ _ _ R0.out).trans rfl
  have a10 : (w.alloc (.cells k.cells 27)).cell? ⟨w.heap.size, 10, none⟩ = some (.int .u8 k.p4) := (cell_of_row _ _ _ _ _ _ R0.out).trans rfl
  have a11 : (w.alloc (.cells k.cells 27)).cell? ⟨w.heap.size, 11, none⟩ = some (.int .u8 k.p5) := (cell_of_row _ _ _ _ _ _ R0.out).trans rfl
  have s12 : (w.alloc (.cells k.cells 27)).cell? ⟨w.heap.size, 12, none⟩ = some (.int .u8 k.st) := (cell_of_row _ _ _ _ _ _ R0.out).trans rfl
  have s13 : (w.alloc (.cells k.cells 27)).cell? ⟨w.heap.size, 13, none⟩ = some (.int .i64 k.id) := (cell_of_row _ _ _ _ _ _ R0.out).trans rfl
  have s14 : (w.alloc (.cells k.cells 27)).cell? ⟨w.heap.size, 14, none⟩ = some (.int .i64 k.ot) := (cell_of_row _ _ _ _ _ _ R0.out).trans rfl
  have s15 : (w.alloc (.cells k.cells 27)).cell? ⟨w.heap.size, 15, none⟩ = some (.int .i64 k.tr) := (cell_of_row _ _ _ _ _ _ R0.out).trans rfl
  have s16 : (w.alloc (.cells k.cells 27)).cell? ⟨w.heap.size, 16, none⟩ = some (.int .i64 k.du) := (cell_of_row _ _ _ _ _ _ R0.out).trans rfl
  have HB := Lib.hid (show Below w.heap.size w (w.alloc (.cells k.cells 27)) from below_more (Below.refl _ _) _)
  have HI := Lib.hid (link_info2 k)
  have dg0 : decide (5 < k.st) = true := by simp; omega
  go_enter Try.func32, Try.ntmps32
  go_wp2_with (first
    | (with_reducible refine wpList_load_row rfl 27 (.tmp 1) rfl w.heap.size rfl 27 k.cells (0, 0) _ R0.out Try.underlying27 rfl HI.out ?_)
    | ((with_reducible refine wpList_load_subG ?_ 27 (.tmp 1) rfl w.heap.size 0 rfl k.cells _ (range_row R0.out) Try.underlying27 rfl HI.out ?_); (as_aux_lemma => kernel_rfl)))
  go_ret
  exact ⟨rfl, HB.out⟩
set_option maxHeartbeats 2000000 in
theorem rc_else (k : Lk) (hB : k.By) (hs : k.st = k.st) (hsame : k.same = false) (g0 : 5 < k.st) (w : World) : Calls Try.prog 32 #[.agg k.cells] w fun e w' => e = .returned (.int .i64 8) ∧ Below w.heap.size w w' := by
  have E := eql_addr k.o0 k.o1 k.o2 k.o3 k.o4 k.o5 k.p0 k.p1 k.p2 k.p3 k.p4 k.p5 hB.o0 hB.o1 hB.o2 hB.o3 hB.o4 hB.o5 hB.p0 hB.p1 hB.p2 hB.p3 hB.p4 hB.p5
  rw [show addrB k.o0 k.o1 k.o2 k.o3 k.o4 k.o5 k.p0 k.p1 k.p2 k.p3 k.p4 k.p5 = false from hsame] at E
  clear hsame hB
  have R0 := Lib.hid (fr_rows1 w (.cells k.cells 27))
  have a0 : (w.alloc (.cells k.cells 27)).cell? ⟨w.heap.size, 0, none⟩ = some (.int .u8 k.o0) := (cell_of_row _ _ _ _ _ _ R0.out).trans rfl
  have a1 : (w.alloc (.cells k.cells 27)).cell? ⟨w.heap.size, 1, none⟩ = some (.int .u8 k.o1) := (cell_of_row _ _ _ _ _ _ R0.out).trans rfl
  have a2 : (w.alloc (.cells k.cells 27)).cell? ⟨w.heap.size, 2, none⟩ = some (.int .u8 k.o2) := (cell_of_row _ _ _ _ _ _ R0.out).trans rfl
  have a3 : (w.alloc (.cells k.cells 27)).cell? ⟨w.heap.size, 3, none⟩ = some (.int .u8 k.o3) := (cell_of_row _ _ _ _ _ _ R0.out).trans rfl
  have a4 : (w.alloc (.cells k.cells 27)).cell? ⟨w.heap.size, 4, none⟩ = some (.int .u8 k.o4) := (cell_of_row _ _ _ _ _ _ R0.out).trans rfl
  have a5 : (w.alloc (.cells k.cells 27)).cell? ⟨w.heap.size, 5, none⟩ = some (.int .u8 k.o5) := (cell_of_row _ _ _ _ _ _ R0.out).trans rfl
  have a6 : (w.alloc (.cells k.cells 27)).cell? ⟨w.heap.size, 6, none⟩ = some (.int .u8 k.p0) := (cell_of_row _ _ _ _ _ _ R0.out).trans rfl
  have a7 : (w.alloc (.cells k.cells 27)).cell? ⟨w.heap.size, 7, none⟩ = some (.int .u8 k.p1) := (cell_of_row _ _ _ _ _ _ R0.out).trans rfl
  have a8 : (w.alloc (.cells k.cells 27)).cell? ⟨w.heap.size, 8, none⟩ = some (.int .u8 k.p2) := (cell_of_row _ _ _ _ _ _ R0.out).trans rfl
  have a9 : (w.alloc (.cells k.cells 27)).cell? ⟨w.heap.size, 9, none⟩ = some (.int .u8 k.p3) := (cell_of_row _ _ _ _ _ _ R0.out).trans rfl
  have a10 : (w.alloc (.cells k.cells 27)).cell? ⟨w.heap.size, 10, none⟩ = some (.int .u8 k.p4) := (cell_of_row _ _ _ _ _ _ R0.out).trans rfl
  have a11 : (w.alloc (.cells k.cells 27)).cell? ⟨w.heap.size, 11, none⟩ = some (.int .u8 k.p5) := (cell_of_row _ _ _ _ _ _ R0.out).trans rfl
  have s12 : (w.alloc (.cells k.cells 27)).cell? ⟨w.heap.size, 12, none⟩ = some (.int .u8 k.st) := (cell_of_row _ _ _ _ _ _ R0.out).trans rfl
  have s13 : (w.alloc (.cells k.cells 27)).cell? ⟨w.heap.size, 13, none⟩ = some (.int .i64 k.id) := (cell_of_row _ _ _ _ _ _ R0.out).trans rfl
  have s14 : (w.alloc (.cells k.cells 27)).cell? ⟨w.heap.size, 14, none⟩ = some (.int .i64 k.ot) := (cell_of_row _ _ _ _ _ _ R0.out).trans rfl
  have s15 : (w.alloc (.cells k.cells 27)).cell? ⟨w.heap.size, 15, none⟩ = some (.int .i64 k.tr) := (cell_of_row _ _ _ _ _ _ R0.out).trans rfl
  have s16 : (w.alloc (.cells k.cells 27)).cell? ⟨w.heap.size, 16, none⟩ = some (.int .i64 k.du) := (cell_of_row _ _ _ _ _ _ R0.out).trans rfl
  have HB := Lib.hid (show Below w.heap.size w (w.alloc (.cells k.cells 27)) from below_more (Below.refl _ _) _)
  have HI := Lib.hid (link_info2 k)
  have dg0 : decide (5 < k.st) = true := by simp; omega
  go_enter Try.func32, Try.ntmps32
  go_wp2_with (first
    | (with_reducible refine wpList_load_row rfl 27 (.tmp 1) rfl w.heap.size rfl 27 k.cells (0, 0) _ R0.out Try.underlying27 rfl HI.out ?_)
    | ((with_reducible refine wpList_load_subG ?_ 27 (.tmp 1) rfl w.heap.size 0 rfl k.cells _ (range_row R0.out) Try.underlying27 rfl HI.out ?_); (as_aux_lemma => kernel_rfl)))
  go_ret
  exact ⟨rfl, HB.out⟩
theorem refcheck_any (k : Lk) (hB : k.By) (h0 : 0 ≤ k.st) (w : World) : Calls Try.prog 32 #[.agg k.cells] w fun e w' => e = .returned (.int .i64 k.chk) ∧ Below w.heap.size w w' := by
  by_cases hs : k.st ≤ 5
  · have h6 : k.st = 0 ∨ k.st = 1 ∨ k.st = 2 ∨ k.st = 3 ∨ k.st = 4 ∨ k.st = 5 := by omega
    rcases h6 with h | h | h | h | h | h
    · exact refcheck_0 k hB h w
    · exact refcheck_1 k hB h w
    · exact refcheck_2 k hB h w
    · exact refcheck_3 k hB h w
    · exact refcheck_4 k hB h w
    · exact refcheck_5 k hB h w
  · rw [chk_bad (fun h => by have h2 := h.2.2; simp only [Lk.Shape] at h2; omega)]
    by_cases hsame : k.same = true
    · exact rc_else_same k hB rfl hsame (by omega) w
    · exact rc_else k hB rfl (by simpa using hsame) (by omega) w
def beforeI (k : Lk) (now : Int) : Int := if k.chk = 0 then (if tinB now = true then 0 else 2) else 8
set_option maxHeartbeats 1000000 in
theorem rbefore_bad (k : Lk) (hB : k.By) (hz : 0 ≤ k.st) (now : Int) (h : k.chk = 8) (w : World) : Calls Try.prog 44 #[.agg k.cells, .int .i64 now] w fun e w' => e = .returned (.int .i64 8) ∧ Below w.heap.size w w' := by
  have R0 := Lib.hid (fr_rows1 w (.cells k.cells 27))
  have HI := Lib.hid (link_info2 k)
  go_enter Try.func44, Try.ntmps44
  go_wp2_with (with_reducible refine wpList_load_row rfl 27 (.tmp 2) rfl w.heap.size rfl 27 k.cells (0, 0) _ R0.out Try.underlying27 rfl HI.out ?_)
  refine (refcheck_any k hB hz _).mono ?_
  rintro e w1 ⟨rfl, hb⟩
  have HB := Lib.hid (below_step (below_more (Below.refl w.heap.size w) (.cells k.cells 27)) hb)
  clear hb
  simp only [h]
  go_wp2
  go_ret
  exact ⟨rfl, HB.out⟩
set_option maxHeartbeats 1000000 in
theorem rbefore_arg0 (k : Lk) (hB : k.By) (hz : 0 ≤ k.st) (now : Int) (h : k.chk = 0) (ht : now < 0) (w : World) : Calls Try.prog 44 #[.agg k.cells, .int .i64 now] w fun e w' => e = .returned (.int .i64 2) ∧ Below w.heap.size w w' := by
  have R0 := Lib.hid (fr_rows1 w (.cells k.cells 27))
  have HI := Lib.hid (link_info2 k)
  go_enter Try.func44, Try.ntmps44
  go_wp2_with (with_reducible refine wpList_load_row rfl 27 (.tmp 2) rfl w.heap.size rfl 27 k.cells (0, 0) _ R0.out Try.underlying27 rfl HI.out ?_)
  refine (refcheck_any k hB hz _).mono ?_
  rintro e w1 ⟨rfl, hb⟩
  have HB := Lib.hid (below_step (below_more (Below.refl w.heap.size w) (.cells k.cells 27)) hb)
  clear hb
  simp only [h]
  go_wp2
  go_ret
  exact ⟨rfl, HB.out⟩
set_option maxHeartbeats 1000000 in
theorem rbefore_arg1 (k : Lk) (hB : k.By) (hz : 0 ≤ k.st) (now : Int) (h : k.chk = 0) (h0 : 0 ≤ now) (ht : 1099511627776 < now) (w : World) : Calls Try.prog 44 #[.agg k.cells, .int .i64 now] w fun e w' => e = .returned (.int .i64 2) ∧ Below w.heap.size w w' := by
  have R0 := Lib.hid (fr_rows1 w (.cells k.cells 27))
  have HI := Lib.hid (link_info2 k)
  go_enter Try.func44, Try.ntmps44
  go_wp2_with (with_reducible refine wpList_load_row rfl 27 (.tmp 2) rfl w.heap.size rfl 27 k.cells (0, 0) _ R0.out Try.underlying27 rfl HI.out ?_)
  refine (refcheck_any k hB hz _).mono ?_
  rintro e w1 ⟨rfl, hb⟩
  have HB := Lib.hid (below_step (below_more (Below.refl w.heap.size w) (.cells k.cells 27)) hb)
  clear hb
  simp only [h]
  go_wp2
  go_ret
  exact ⟨rfl, HB.out⟩
set_option maxHeartbeats 1000000 in
theorem rbefore_ok (k : Lk) (hB : k.By) (hz : 0 ≤ k.st) (now : Int) (h : k.chk = 0) (h0 : 0 ≤ now) (ht : now ≤ 1099511627776) (w : World) : Calls Try.prog 44 #[.agg k.cells, .int .i64 now] w fun e w' => e = .returned (.int .i64 0) ∧ Below w.heap.size w w' := by
  have R0 := Lib.hid (fr_rows1 w (.cells k.cells 27))
  have HI := Lib.hid (link_info2 k)
  go_enter Try.func44, Try.ntmps44
  go_wp2_with (with_reducible refine wpList_load_row rfl 27 (.tmp 2) rfl w.heap.size rfl 27 k.cells (0, 0) _ R0.out Try.underlying27 rfl HI.out ?_)
  refine (refcheck_any k hB hz _).mono ?_
  rintro e w1 ⟨rfl, hb⟩
  have HB := Lib.hid (below_step (below_more (Below.refl w.heap.size w) (.cells k.cells 27)) hb)
  clear hb
  simp only [h]
  go_wp2
  go_ret
  exact ⟨rfl, HB.out⟩
theorem before_any (k : Lk) (hB : k.By) (hz : 0 ≤ k.st) (now : Int) (w : World) : Calls Try.prog 44 #[.agg k.cells, .int .i64 now] w fun e w' => e = .returned (.int .i64 (beforeI k now)) ∧ Below w.heap.size w w' := by
  rcases chk_two k with h | h
  · by_cases h0 : 0 ≤ now
    · by_cases h1 : now ≤ 1099511627776
      · rw [show beforeI k now = 0 by simp only [beforeI, h, if_true, show tinB now = true from btw_iff.2 ⟨h0, h1⟩]]
        exact rbefore_ok k hB hz now h h0 h1 w
      · rw [show beforeI k now = 2 by simp only [beforeI, h, if_true, show tinB now = false from btw_no (by omega)]; rfl]
        exact rbefore_arg1 k hB hz now h h0 (by omega) w
    · rw [show beforeI k now = 2 by simp only [beforeI, h, if_true, show tinB now = false from btw_no (by omega)]; rfl]
      exact rbefore_arg0 k hB hz now h (by omega) w
  · rw [show beforeI k now = 8 by simp only [beforeI, h]; rfl]
    exact rbefore_bad k hB hz now h w
end Go.Proofs.Ytmighkgjbohieaa
