/-
  The reference's Start, Close and Tick where they return an error.
-/
import Derived.Test.YtmighkgjbohieaaPeerRefD
namespace Go.Proofs.Ytmighkgjbohieaa
open Go.ChangeShapes Go.WideShapes Go.ChangeAt Go.RowKit Go.Great

set_option maxHeartbeats 2000000 in
theorem rstart_bad (k : Lk) (hB : k.By) (hz : 0 ≤ k.st) (now : Int) (h : k.chk = 8) (w : World) : Calls Try.prog 27 #[.agg k.cells, .int .i64 now] w (Ret3 w zeroLk [] 8) := by
  obtain ⟨q0, q1⟩ := fr_rows2 w (.cells k.cells 27) (.cells #[.int .u8 0, .int .u8 0, .int .u8 0, .int .u8 0, .int .u8 0, .int .u8 0, .int .u8 0, .int .u8 0, .int .u8 0, .int .u8 0, .int .u8 0, .int .u8 0, .int .u8 0, .int .i64 0, .int .i64 0, .int .i64 0, .int .i64 0] 27)
  have Q0 := Lib.hid q0
  have Q1 := Lib.hid q1
  clear q0 q1
  have HI := Lib.hid (link_info2 k)
  have HZ := Lib.hid link_infoZ
  have hbv : beforeI k now = 8 := by simp only [beforeI, h]; rfl
  go_enter Try.func27, Try.ntmps27
  go_wp2_with (with_reducible refine wpList_load_row rfl 27 (.tmp 2) rfl w.heap.size rfl 27 k.cells (0, 0) _ Q0.out Try.underlying27 rfl HI.out ?_)
  refine (before_any k hB hz now _).mono ?_
  rintro e w1 ⟨rfl, hb⟩
  have P0 := Lib.hid (row_below hb Q0.out)
  have P1 := Lib.hid (row_below hb Q1.out)
  have HB := Lib.hid (below_step (below_more (below_more (Below.refl w.heap.size w) (.cells k.cells 27)) (.cells #[.int .u8 0, .int .u8 0, .int .u8 0, .int .u8 0, .int .u8 0, .int .u8 0, .int .u8 0, .int .u8 0, .int .u8 0, .int .u8 0, .int .u8 0, .int .u8 0, .int .u8 0, .int .i64 0, .int .i64 0, .int .i64 0, .int .i64 0] 27)) hb)
  clear hb Q0 Q1
  simp only [hbv]
  have s12 : w1.cell? ⟨w.heap.size, 12, none⟩ = some (.int .u8 k.st) := (cell_of_row _ _ _ _ _ _ P0.out).trans (lk_st k)
  go_wp2_with ((with_reducible refine wpList_store_rowTo rfl 27 (.tmp 4) (.tmp 20) rfl rfl (w.heap.size + 1) #[.int .u8 0, .int .u8 0, .int .u8 0, .int .u8 0, .int .u8 0, .int .u8 0, .int .u8 0, .int .u8 0, .int .u8 0, .int .u8 0, .int .u8 0, .int .u8 0, .int .u8 0, .int .i64 0, .int .i64 0, .int .i64 0, .int .i64 0] ?_ ?_ 27 #[.int .u8 0, .int .u8 0, .int .u8 0, .int .u8 0, .int .u8 0, .int .u8 0, .int .u8 0, .int .u8 0, .int .u8 0, .int .u8 0, .int .u8 0, .int .u8 0, .int .u8 0, .int .i64 0, .int .i64 0, .int .i64 0, .int .i64 0] P1.out HZ.out rfl zl_one ?_); (as_aux_lemma => kernel_rfl); (as_aux_lemma => kernel_rfl))
  refine bodyPost_ret (results_row3 rfl _ _ (w.heap.size + 1) 27 #[.int .u8 0, .int .u8 0, .int .u8 0, .int .u8 0, .int .u8 0, .int .u8 0, .int .u8 0, .int .u8 0, .int .u8 0, .int .u8 0, .int .u8 0, .int .u8 0, .int .u8 0, .int .i64 0, .int .i64 0, .int .i64 0, .int .i64 0] (0, 0) _ rfl (setRow_heap _ _ _ _ _ _ P1.out) Try.underlying27 rfl HZ.out) rfl ?_
  exact ⟨_, rfl, outAt_nil _ _, below_setRow' HB.out (Nat.le_succ _) _⟩
set_option maxHeartbeats 2000000 in
theorem rstart_arg (k : Lk) (hB : k.By) (hz : 0 ≤ k.st) (now : Int) (h : k.chk = 0) (ht : tinB now = false) (w : World) : Calls Try.prog 27 #[.agg k.cells, .int .i64 now] w (Ret3 w zeroLk [] 2) := by
  obtain ⟨q0, q1⟩ := fr_rows2 w (.cells k.cells 27) (.cells #[.int .u8 0, .int .u8 0, .int .u8 0, .int .u8 0, .int .u8 0, .int .u8 0, .int .u8 0, .int .u8 0, .int .u8 0, .int .u8 0, .int .u8 0, .int .u8 0, .int .u8 0, .int .i64 0, .int .i64 0, .int .i64 0, .int .i64 0] 27)
  have Q0 := Lib.hid q0
  have Q1 := Lib.hid q1
  clear q0 q1
  have HI := Lib.hid (link_info2 k)
  have HZ := Lib.hid link_infoZ
  have hbv : beforeI k now = 2 := by simp only [beforeI, h, ht]; rfl
  go_enter Try.func27, Try.ntmps27
  go_wp2_with (with_reducible refine wpList_load_row rfl 27 (.tmp 2) rfl w.heap.size rfl 27 k.cells (0, 0) _ Q0.out Try.underlying27 rfl HI.out ?_)
  refine (before_any k hB hz now _).mono ?_
  rintro e w1 ⟨rfl, hb⟩
  have P0 := Lib.hid (row_below hb Q0.out)
  have P1 := Lib.hid (row_below hb Q1.out)
  have HB := Lib.hid (below_step (below_more (below_more (Below.refl w.heap.size w) (.cells k.cells 27)) (.cells #[.int .u8 0, .int .u8 0, .int .u8 0, .int .u8 0, .int .u8 0, .int .u8 0, .int .u8 0, .int .u8 0, .int .u8 0, .int .u8 0, .int .u8 0, .int .u8 0, .int .u8 0, .int .i64 0, .int .i64 0, .int .i64 0, .int .i64 0] 27)) hb)
  clear hb Q0 Q1
  simp only [hbv]
  have s12 : w1.cell? ⟨w.heap.size, 12, none⟩ = some (.int .u8 k.st) := (cell_of_row _ _ _ _ _ _ P0.out).trans (lk_st k)
  go_wp2_with ((with_reducible refine wpList_store_rowTo rfl 27 (.tmp 4) (.tmp 20) rfl rfl (w.heap.size + 1) #[.int .u8 0, .int .u8 0, .int .u8 0, .int .u8 0, .int .u8 0, .int .u8 0, .int .u8 0, .int .u8 0, .int .u8 0, .int .u8 0, .int .u8 0, .int .u8 0, .int .u8 0, .int .i64 0, .int .i64 0, .int .i64 0, .int .i64 0] ?_ ?_ 27 #[.int .u8 0, .int .u8 0, .int .u8 0, .int .u8 0, .int .u8 0, .int .u8 0, .int .u8 0, .int .u8 0, .int .u8 0, .int .u8 0, .int .u8 0, .int .u8 0, .int .u8 0, .int .i64 0, .int .i64 0, .int .i64 0, .int .i64 0] P1.out HZ.out rfl zl_one ?_); (as_aux_lemma => kernel_rfl); (as_aux_lemma => kernel_rfl))
  refine bodyPost_ret (results_row3 rfl _ _ (w.heap.size + 1) 27 #[.int .u8 0, .int .u8 0, .int .u8 0, .int .u8 0, .int .u8 0, .int .u8 0, .int .u8 0, .int .u8 0, .int .u8 0, .int .u8 0, .int .u8 0, .int .u8 0, .int .u8 0, .int .i64 0, .int .i64 0, .int .i64 0, .int .i64 0] (0, 0) _ rfl (setRow_heap _ _ _ _ _ _ P1.out) Try.underlying27 rfl HZ.out) rfl ?_
  exact ⟨_, rfl, outAt_nil _ _, below_setRow' HB.out (Nat.le_succ _) _⟩
set_option maxHeartbeats 2000000 in
theorem rclose_bad (k : Lk) (hB : k.By) (hz : 0 ≤ k.st) (now : Int) (h : k.chk = 8) (w : World) : Calls Try.prog 28 #[.agg k.cells, .int .i64 now] w (Ret3 w zeroLk [] 8) := by
  obtain ⟨q0, q1⟩ := fr_rows2 w (.cells k.cells 27) (.cells #[.int .u8 0, .int .u8 0, .int .u8 0, .int .u8 0, .int .u8 0, .int .u8 0, .int .u8 0, .int .u8 0, .int .u8 0, .int .u8 0, .int .u8 0, .int .u8 0, .int .u8 0, .int .i64 0, .int .i64 0, .int .i64 0, .int .i64 0] 27)
  have Q0 := Lib.hid q0
  have Q1 := Lib.hid q1
  clear q0 q1
  have HI := Lib.hid (link_info2 k)
  have HZ := Lib.hid link_infoZ
  have hbv : beforeI k now = 8 := by simp only [beforeI, h]; rfl
  go_enter Try.func28, Try.ntmps28
  go_wp2_with (with_reducible refine wpList_load_row rfl 27 (.tmp 2) rfl w.heap.size rfl 27 k.cells (0, 0) _ Q0.out Try.underlying27 rfl HI.out ?_)
  refine (before_any k hB hz now _).mono ?_
  rintro e w1 ⟨rfl, hb⟩
  have P0 := Lib.hid (row_below hb Q0.out)
  have P1 := Lib.hid (row_below hb Q1.out)
  have HB := Lib.hid (below_step (below_more (below_more (Below.refl w.heap.size w) (.cells k.cells 27)) (.cells #[.int .u8 0, .int .u8 0, .int .u8 0, .int .u8 0, .int .u8 0, .int .u8 0, .int .u8 0, .int .u8 0, .int .u8 0, .int .u8 0, .int .u8 0, .int .u8 0, .int .u8 0, .int .i64 0, .int .i64 0, .int .i64 0, .int .i64 0] 27)) hb)
  clear hb Q0 Q1
  simp only [hbv]
  have s12 : w1.cell? ⟨w.heap.size, 12, none⟩ = some (.int .u8 k.st) := (cell_of_row _ _ _ _ _ _ P0.out).trans (lk_st k)
  go_wp2_with ((with_reducible refine wpList_store_rowTo rfl 27 (.tmp 4) (.tmp 27) rfl rfl (w.heap.size + 1) #[.int .u8 0, .int .u8 0, .int .u8 0, .int .u8 0, .int .u8 0, .int .u8 0, .int .u8 0, .int .u8 0, .int .u8 0, .int .u8 0, .int .u8 0, .int .u8 0, .int .u8 0, .int .i64 0, .int .i64 0, .int .i64 0, .int .i64 0] ?_ ?_ 27 #[.int .u8 0, .int .u8 0, .int .u8 0, .int .u8 0, .int .u8 0, .int .u8 0, .int .u8 0, .int .u8 0, .int .u8 0, .int .u8 0, .int .u8 0, .int .u8 0, .int .u8 0, .int .i64 0, .int .i64 0, .int .i64 0, .int .i64 0] P1.out HZ.out rfl zl_one ?_); (as_aux_lemma => kernel_rfl); (as_aux_lemma => kernel_rfl))
  refine bodyPost_ret (results_row3 rfl _ _ (w.heap.size + 1) 27 #[.int .u8 0, .int .u8 0, .int .u8 0, .int .u8 0, .int .u8 0, .int .u8 0, .int .u8 0, .int .u8 0, .int .u8 0, .int .u8 0, .int .u8 0, .int .u8 0, .int .u8 0, .int .i64 0, .int .i64 0, .int .i64 0, .int .i64 0] (0, 0) _ rfl (setRow_heap _ _ _ _ _ _ P1.out) Try.underlying27 rfl HZ.out) rfl ?_
  exact ⟨_, rfl, outAt_nil _ _, below_setRow' HB.out (Nat.le_succ _) _⟩
set_option maxHeartbeats 2000000 in
theorem rclose_arg (k : Lk) (hB : k.By) (hz : 0 ≤ k.st) (now : Int) (h : k.chk = 0) (ht : tinB now = false) (w : World) : Calls Try.prog 28 #[.agg k.cells, .int .i64 now] w (Ret3 w zeroLk [] 2) := by
  obtain ⟨q0, q1⟩ := fr_rows2 w (.cells k.cells 27) (.cells #[.int .u8 0, .int .u8 0, .int .u8 0, .int .u8 0, .int .u8 0, .int .u8 0, .int .u8 0, .int .u8 0, .int .u8 0, .int .u8 0, .int .u8 0, .int .u8 0, .int .u8 0, .int .i64 0, .int .i64 0, .int .i64 0, .int .i64 0] 27)
  have Q0 := Lib.hid q0
  have Q1 := Lib.hid q1
  clear q0 q1
  have HI := Lib.hid (link_info2 k)
  have HZ := Lib.hid link_infoZ
  have hbv : beforeI k now = 2 := by simp only [beforeI, h, ht]; rfl
  go_enter Try.func28, Try.ntmps28
  go_wp2_with (with_reducible refine wpList_load_row rfl 27 (.tmp 2) rfl w.heap.size rfl 27 k.cells (0, 0) _ Q0.out Try.underlying27 rfl HI.out ?_)
  refine (before_any k hB hz now _).mono ?_
  rintro e w1 ⟨rfl, hb⟩
  have P0 := Lib.hid (row_below hb Q0.out)
  have P1 := Lib.hid (row_below hb Q1.out)
  have HB := Lib.hid (below_step (below_more (below_more (Below.refl w.heap.size w) (.cells k.cells 27)) (.cells #[.int .u8 0, .int .u8 0, .int .u8 0, .int .u8 0, .int .u8 0, .int .u8 0, .int .u8 0, .int .u8 0, .int .u8 0, .int .u8 0, .int .u8 0, .int .u8 0, .int .u8 0, .int .i64 0, .int .i64 0, .int .i64 0, .int .i64 0] 27)) hb)
  clear hb Q0 Q1
  simp only [hbv]
  have s12 : w1.cell? ⟨w.heap.size, 12, none⟩ = some (.int .u8 k.st) := (cell_of_row _ _ _ _ _ _ P0.out).trans (lk_st k)
  go_wp2_with ((with_reducible refine wpList_store_rowTo rfl 27 (.tmp 4) (.tmp 27) rfl rfl (w.heap.size + 1) #[.int .u8 0, .int .u8 0, .int .u8 0, .int .u8 0, .int .u8 0, .int .u8 0, .int .u8 0, .int .u8 0, .int .u8 0, .int .u8 0, .int .u8 0, .int .u8 0, .int .u8 0, .int .i64 0, .int .i64 0, .int .i64 0, .int .i64 0] ?_ ?_ 27 #[.int .u8 0, .int .u8 0, .int .u8 0, .int .u8 0, .int .u8 0, .int .u8 0, .int .u8 0, .int .u8 0, .int .u8 0, .int .u8 0, .int .u8 0, .int .u8 0, .int .u8 0, .int .i64 0, .int .i64 0, .int .i64 0, .int .i64 0] P1.out HZ.out rfl zl_one ?_); (as_aux_lemma => kernel_rfl); (as_aux_lemma => kernel_rfl))
  refine bodyPost_ret (results_row3 rfl _ _ (w.heap.size + 1) 27 #[.int .u8 0, .int .u8 0, .int .u8 0, .int .u8 0, .int .u8 0, .int .u8 0, .int .u8 0, .int .u8 0, .int .u8 0, .int .u8 0, .int .u8 0, .int .u8 0, .int .u8 0, .int .i64 0, .int .i64 0, .int .i64 0, .int .i64 0] (0, 0) _ rfl (setRow_heap _ _ _ _ _ _ P1.out) Try.underlying27 rfl HZ.out) rfl ?_
  exact ⟨_, rfl, outAt_nil _ _, below_setRow' HB.out (Nat.le_succ _) _⟩
set_option maxHeartbeats 2000000 in
theorem rtick_bad (k : Lk) (hB : k.By) (hz : 0 ≤ k.st) (now : Int) (h : k.chk = 8) (w : World) : Calls Try.prog 29 #[.agg k.cells, .int .i64 now] w (Ret3 w zeroLk [] 8) := by
  obtain ⟨q0, q1⟩ := fr_rows2 w (.cells k.cells 27) (.cells #[.int .u8 0, .int .u8 0, .int .u8 0, .int .u8 0, .int .u8 0, .int .u8 0, .int .u8 0, .int .u8 0, .int .u8 0, .int .u8 0, .int .u8 0, .int .u8 0, .int .u8 0, .int .i64 0, .int .i64 0, .int .i64 0, .int .i64 0] 27)
  have Q0 := Lib.hid q0
  have Q1 := Lib.hid q1
  clear q0 q1
  have HI := Lib.hid (link_info2 k)
  have HZ := Lib.hid link_infoZ
  have hbv : beforeI k now = 8 := by simp only [beforeI, h]; rfl
  go_enter Try.func29, Try.ntmps29
  go_wp2_with (with_reducible refine wpList_load_row rfl 27 (.tmp 2) rfl w.heap.size rfl 27 k.cells (0, 0) _ Q0.out Try.underlying27 rfl HI.out ?_)
  refine (before_any k hB hz now _).mono ?_
  rintro e w1 ⟨rfl, hb⟩
  have P0 := Lib.hid (row_below hb Q0.out)
  have P1 := Lib.hid (row_below hb Q1.out)
  have HB := Lib.hid (below_step (below_more (below_more (Below.refl w.heap.size w) (.cells k.cells 27)) (.cells #[.int .u8 0, .int .u8 0, .int .u8 0, .int .u8 0, .int .u8 0, .int .u8 0, .int .u8 0, .int .u8 0, .int .u8 0, .int .u8 0, .int .u8 0, .int .u8 0, .int .u8 0, .int .i64 0, .int .i64 0, .int .i64 0, .int .i64 0] 27)) hb)
  clear hb Q0 Q1
  simp only [hbv]
  have s12 : w1.cell? ⟨w.heap.size, 12, none⟩ = some (.int .u8 k.st) := (cell_of_row _ _ _ _ _ _ P0.out).trans (lk_st k)
  go_wp2_with ((with_reducible refine wpList_store_rowTo rfl 27 (.tmp 4) (.tmp 15) rfl rfl (w.heap.size + 1) #[.int .u8 0, .int .u8 0, .int .u8 0, .int .u8 0, .int .u8 0, .int .u8 0, .int .u8 0, .int .u8 0, .int .u8 0, .int .u8 0, .int .u8 0, .int .u8 0, .int .u8 0, .int .i64 0, .int .i64 0, .int .i64 0, .int .i64 0] ?_ ?_ 27 #[.int .u8 0, .int .u8 0, .int .u8 0, .int .u8 0, .int .u8 0, .int .u8 0, .int .u8 0, .int .u8 0, .int .u8 0, .int .u8 0, .int .u8 0, .int .u8 0, .int .u8 0, .int .i64 0, .int .i64 0, .int .i64 0, .int .i64 0] P1.out HZ.out rfl zl_one ?_); (as_aux_lemma => kernel_rfl); (as_aux_lemma => kernel_rfl))
  refine bodyPost_ret (results_row3 rfl _ _ (w.heap.size + 1) 27 #[.int .u8 0, .int .u8 0, .int .u8 0, .int .u8 0, .int .u8 0, .int .u8 0, .int .u8 0, .int .u8 0, .int .u8 0, .int .u8 0, .int .u8 0, .int .u8 0, .int .u8 0, .int .i64 0, .int .i64 0, .int .i64 0, .int .i64 0] (0, 0) _ rfl (setRow_heap _ _ _ _ _ _ P1.out) Try.underlying27 rfl HZ.out) rfl ?_
  exact ⟨_, rfl, outAt_nil _ _, below_setRow' HB.out (Nat.le_succ _) _⟩
set_option maxHeartbeats 2000000 in
theorem rtick_arg (k : Lk) (hB : k.By) (hz : 0 ≤ k.st) (now : Int) (h : k.chk = 0) (ht : tinB now = false) (w : World) : Calls Try.prog 29 #[.agg k.cells, .int .i64 now] w (Ret3 w zeroLk [] 2) := by
  obtain ⟨q0, q1⟩ := fr_rows2 w (.cells k.cells 27) (.cells #[.int .u8 0, .int .u8 0, .int .u8 0, .int .u8 0, .int .u8 0, .int .u8 0, .int .u8 0, .int .u8 0, .int .u8 0, .int .u8 0, .int .u8 0, .int .u8 0, .int .u8 0, .int .i64 0, .int .i64 0, .int .i64 0, .int .i64 0] 27)
  have Q0 := Lib.hid q0
  have Q1 := Lib.hid q1
  clear q0 q1
  have HI := Lib.hid (link_info2 k)
  have HZ := Lib.hid link_infoZ
  have hbv : beforeI k now = 2 := by simp only [beforeI, h, ht]; rfl
  go_enter Try.func29, Try.ntmps29
  go_wp2_with (with_reducible refine wpList_load_row rfl 27 (.tmp 2) rfl w.heap.size rfl 27 k.cells (0, 0) _ Q0.out Try.underlying27 rfl HI.out ?_)
  refine (before_any k hB hz now _).mono ?_
  rintro e w1 ⟨rfl, hb⟩
  have P0 := Lib.hid (row_below hb Q0.out)
  have P1 := Lib.hid (row_below hb Q1.out)
  have HB := Lib.hid (below_step (below_more (below_more (Below.refl w.heap.size w) (.cells k.cells 27)) (.cells #[.int .u8 0, .int .u8 0, .int .u8 0, .int .u8 0, .int .u8 0, .int .u8 0, .int .u8 0, .int .u8 0, .int .u8 0, .int .u8 0, .int .u8 0, .int .u8 0, .int .u8 0, .int .i64 0, .int .i64 0, .int .i64 0, .int .i64 0] 27)) hb)
  clear hb Q0 Q1
  simp only [hbv]
  have s12 : w1.cell? ⟨w.heap.size, 12, none⟩ = some (.int .u8 k.st) := (cell_of_row _ _ _ _ _ _ P0.out).trans (lk_st k)
  go_wp2_with ((with_reducible refine wpList_store_rowTo rfl 27 (.tmp 4) (.tmp 15) rfl rfl (w.heap.size + 1) #[.int .u8 0, .int .u8 0, .int .u8 0, .int .u8 0, .int .u8 0, .int .u8 0, .int .u8 0, .int .u8 0, .int .u8 0, .int .u8 0, .int .u8 0, .int .u8 0, .int .u8 0, .int .i64 0, .int .i64 0, .int .i64 0, .int .i64 0] ?_ ?_ 27 #[.int .u8 0, .int .u8 0, .int .u8 0, .int .u8 0, .int .u8 0, .int .u8 0, .int .u8 0, .int .u8 0, .int .u8 0, .int .u8 0, .int .u8 0, .int .u8 0, .int .u8 0, .int .i64 0, .int .i64 0, .int .i64 0, .int .i64 0] P1.out HZ.out rfl zl_one ?_); (as_aux_lemma => kernel_rfl); (as_aux_lemma => kernel_rfl))
  refine bodyPost_ret (results_row3 rfl _ _ (w.heap.size + 1) 27 #[.int .u8 0, .int .u8 0, .int .u8 0, .int .u8 0, .int .u8 0, .int .u8 0, .int .u8 0, .int .u8 0, .int .u8 0, .int .u8 0, .int .u8 0, .int .u8 0, .int .u8 0, .int .i64 0, .int .i64 0, .int .i64 0, .int .i64 0] (0, 0) _ rfl (setRow_heap _ _ _ _ _ _ P1.out) Try.underlying27 rfl HZ.out) rfl ?_
  exact ⟨_, rfl, outAt_nil _ _, below_setRow' HB.out (Nat.le_succ _) _⟩
set_option maxHeartbeats 2000000 in
theorem rstart_state (k : Lk) (hB : k.By) (hz : 0 ≤ k.st) (now : Int) (h : k.chk = 0) (ht : tinB now = true) (hs : (k.st == 0) = false) (w : World) : Calls Try.prog 27 #[.agg k.cells, .int .i64 now] w (Ret3 w zeroLk [] 20) := by
  obtain ⟨q0, q1⟩ := fr_rows2 w (.cells k.cells 27) (.cells #[.int .u8 0, .int .u8 0, .int .u8 0, .int .u8 0, .int .u8 0, .int .u8 0, .int .u8 0, .int .u8 0, .int .u8 0, .int .u8 0, .int .u8 0, .int .u8 0, .int .u8 0, .int .i64 0, .int .i64 0, .int .i64 0, .int .i64 0] 27)
  have Q0 := Lib.hid q0
  have Q1 := Lib.hid q1
  clear q0 q1
  have HI := Lib.hid (link_info2 k)
  have HZ := Lib.hid link_infoZ
  have hbv : beforeI k now = 0 := by simp only [beforeI, h, ht]; rfl
  go_enter Try.func27, Try.ntmps27
  go_wp2_with (with_reducible refine wpList_load_row rfl 27 (.tmp 2) rfl w.heap.size rfl 27 k.cells (0, 0) _ Q0.out Try.underlying27 rfl HI.out ?_)
  refine (before_any k hB hz now _).mono ?_
  rintro e w1 ⟨rfl, hb⟩
  have P0 := Lib.hid (row_below hb Q0.out)
  have P1 := Lib.hid (row_below hb Q1.out)
  have HB := Lib.hid (below_step (below_more (below_more (Below.refl w.heap.size w) (.cells k.cells 27)) (.cells #[.int .u8 0, .int .u8 0, .int .u8 0, .int .u8 0, .int .u8 0, .int .u8 0, .int .u8 0, .int .u8 0, .int .u8 0, .int .u8 0, .int .u8 0, .int .u8 0, .int .u8 0, .int .i64 0, .int .i64 0, .int .i64 0, .int .i64 0] 27)) hb)
  clear hb Q0 Q1
  simp only [hbv]
  have s12 : w1.cell? ⟨w.heap.size, 12, none⟩ = some (.int .u8 k.st) := (cell_of_row _ _ _ _ _ _ P0.out).trans (lk_st k)
  have hs2 : (k.st != 0) = true := by simp only [bne, hs]; rfl
  go_wp2_with ((with_reducible refine wpList_store_rowTo rfl 27 (.tmp 4) (.tmp 20) rfl rfl (w.heap.size + 1) #[.int .u8 0, .int .u8 0, .int .u8 0, .int .u8 0, .int .u8 0, .int .u8 0, .int .u8 0, .int .u8 0, .int .u8 0, .int .u8 0, .int .u8 0, .int .u8 0, .int .u8 0, .int .i64 0, .int .i64 0, .int .i64 0, .int .i64 0] ?_ ?_ 27 #[.int .u8 0, .int .u8 0, .int .u8 0, .int .u8 0, .int .u8 0, .int .u8 0, .int .u8 0, .int .u8 0, .int .u8 0, .int .u8 0, .int .u8 0, .int .u8 0, .int .u8 0, .int .i64 0, .int .i64 0, .int .i64 0, .int .i64 0] P1.out HZ.out rfl zl_one ?_); (as_aux_lemma => kernel_rfl); (as_aux_lemma => kernel_rfl))
  refine bodyPost_ret (results_row3 rfl _ _ (w.heap.size + 1) 27 #[.int .u8 0, .int .u8 0, .int .u8 0, .int .u8 0, .int .u8 0, .int .u8 0, .int .u8 0, .int .u8 0, .int .u8 0, .int .u8 0, .int .u8 0, .int .u8 0, .int .u8 0, .int .i64 0, .int .i64 0, .int .i64 0, .int .i64 0] (0, 0) _ rfl (setRow_heap _ _ _ _ _ _ P1.out) Try.underlying27 rfl HZ.out) rfl ?_
  exact ⟨_, rfl, outAt_nil _ _, below_setRow' HB.out (Nat.le_succ _) _⟩
end Go.Proofs.Ytmighkgjbohieaa
