/-
  The reference's Tick: nothing due, the end of Hold, the close.
-/
import Derived.Test.YtmighkgjbohieaaPeerRefH
set_option linter.unusedVariables false
set_option linter.unusedSimpArgs false
namespace Go.Proofs.Ytmighkgjbohieaa
open Go.ChangeShapes Go.WideShapes Go.ChangeAt Go.RowKit Go.Great

set_option maxHeartbeats 4000000 in
theorem rtick_idle (k : Lk) (hB : k.By) (hz : 0 ≤ k.st) (now : Int) (h : k.chk = 0) (ht : tinB now = true) (hd : (k.du == 0) = true) (w : World) : Calls Try.prog 29 #[.agg k.cells, .int .i64 now] w (Ret3 w (k) [] 0) := by
  obtain ⟨n0, n1⟩ := tin_in ht
  obtain ⟨i0, i1, j0, j1⟩ := (chk_val h).toIn
  have i2 := ((chk_shape k).1 h).2.1
  obtain ⟨q0, q1⟩ := fr_rows2 w (.cells k.cells 27) (.cells #[.int .u8 0, .int .u8 0, .int .u8 0, .int .u8 0, .int .u8 0, .int .u8 0, .int .u8 0, .int .u8 0, .int .u8 0, .int .u8 0, .int .u8 0, .int .u8 0, .int .u8 0, .int .i64 0, .int .i64 0, .int .i64 0, .int .i64 0] 27)
  have Q0 := Lib.hid q0
  have Q1 := Lib.hid q1
  clear q0 q1
  have HI := Lib.hid (link_info2 k)
  have HC := Lib.hid (link_info2 (k))
  have hbv : beforeI k now = 0 := by simp only [beforeI, h, ht]; rfl
  go_enter Try.func29, Try.ntmps29
  go_wp2_with (with_reducible refine wpList_load_row rfl 27 (.tmp 2) rfl (w.heap.size) rfl 27 (k).cells (0, 0) _ Q0.out Try.underlying27 rfl HI.out ?_)
  refine (before_any k hB hz now _).mono ?_
  rintro e w1 ⟨rfl, hb⟩
  have P0 := Lib.hid (row_below hb Q0.out)
  have P1 := Lib.hid (row_below hb Q1.out)
  have HB := Lib.hid (below_step (below_more (below_more (Below.refl w.heap.size w) (.cells k.cells 27)) (.cells #[.int .u8 0, .int .u8 0, .int .u8 0, .int .u8 0, .int .u8 0, .int .u8 0, .int .u8 0, .int .u8 0, .int .u8 0, .int .u8 0, .int .u8 0, .int .u8 0, .int .u8 0, .int .i64 0, .int .i64 0, .int .i64 0, .int .i64 0] 27)) hb)
  clear hb Q0 Q1
  simp only [hbv]
  have s12 : w1.cell? ⟨w.heap.size, 12, none⟩ = some (.int .u8 k.st) := (cell_of_row _ _ _ _ _ _ P0.out).trans (lk_st k)
  have s15 : w1.cell? ⟨w.heap.size, 15, none⟩ = some (.int .i64 k.tr) := (cell_of_row _ _ _ _ _ _ P0.out).trans (lk_tr k)
  have s16 : w1.cell? ⟨w.heap.size, 16, none⟩ = some (.int .i64 k.du) := (cell_of_row _ _ _ _ _ _ P0.out).trans (lk_du k)
  go_wp2_with (first
    | (with_reducible refine wpList_load_row rfl 27 (.tmp 2) rfl (w.heap.size) rfl 27 (k).cells (0, 0) _ P0.out Try.underlying27 rfl HI.out ?_)
    | ((with_reducible refine wpList_store_rowTo rfl 27 (.tmp 4) (.tmp 26) rfl rfl (w.heap.size + 1) (k).cells ?_ ?_ 27 #[.int .u8 0, .int .u8 0, .int .u8 0, .int .u8 0, .int .u8 0, .int .u8 0, .int .u8 0, .int .u8 0, .int .u8 0, .int .u8 0, .int .u8 0, .int .u8 0, .int .u8 0, .int .i64 0, .int .i64 0, .int .i64 0, .int .i64 0] P1.out HC.out rfl (one_cells _) ?_); (as_aux_lemma => kernel_rfl); (as_aux_lemma => kernel_rfl)))
  refine bodyPost_ret (results_row3 rfl _ _ (w.heap.size + 1) 27 (k).cells (0, 0) _ rfl (setRow_heap _ _ _ _ _ _ P1.out) Try.underlying27 rfl HC.out) rfl ?_
  exact ⟨_, rfl, outAt_nil _ _, below_setRow' HB.out (Nat.le_succ _) _⟩
set_option maxHeartbeats 4000000 in
theorem rtick_early (k : Lk) (hB : k.By) (hz : 0 ≤ k.st) (now : Int) (h : k.chk = 0) (ht : tinB now = true) (hd : (k.du == 0) = false) (hn : now < k.du) (w : World) : Calls Try.prog 29 #[.agg k.cells, .int .i64 now] w (Ret3 w (k) [] 0) := by
  obtain ⟨n0, n1⟩ := tin_in ht
  obtain ⟨i0, i1, j0, j1⟩ := (chk_val h).toIn
  have i2 := ((chk_shape k).1 h).2.1
  obtain ⟨q0, q1⟩ := fr_rows2 w (.cells k.cells 27) (.cells #[.int .u8 0, .int .u8 0, .int .u8 0, .int .u8 0, .int .u8 0, .int .u8 0, .int .u8 0, .int .u8 0, .int .u8 0, .int .u8 0, .int .u8 0, .int .u8 0, .int .u8 0, .int .i64 0, .int .i64 0, .int .i64 0, .int .i64 0] 27)
  have Q0 := Lib.hid q0
  have Q1 := Lib.hid q1
  clear q0 q1
  have HI := Lib.hid (link_info2 k)
  have HC := Lib.hid (link_info2 (k))
  have hbv : beforeI k now = 0 := by simp only [beforeI, h, ht]; rfl
  go_enter Try.func29, Try.ntmps29
  go_wp2_with (with_reducible refine wpList_load_row rfl 27 (.tmp 2) rfl (w.heap.size) rfl 27 (k).cells (0, 0) _ Q0.out Try.underlying27 rfl HI.out ?_)
  refine (before_any k hB hz now _).mono ?_
  rintro e w1 ⟨rfl, hb⟩
  have P0 := Lib.hid (row_below hb Q0.out)
  have P1 := Lib.hid (row_below hb Q1.out)
  have HB := Lib.hid (below_step (below_more (below_more (Below.refl w.heap.size w) (.cells k.cells 27)) (.cells #[.int .u8 0, .int .u8 0, .int .u8 0, .int .u8 0, .int .u8 0, .int .u8 0, .int .u8 0, .int .u8 0, .int .u8 0, .int .u8 0, .int .u8 0, .int .u8 0, .int .u8 0, .int .i64 0, .int .i64 0, .int .i64 0, .int .i64 0] 27)) hb)
  clear hb Q0 Q1
  simp only [hbv]
  have s12 : w1.cell? ⟨w.heap.size, 12, none⟩ = some (.int .u8 k.st) := (cell_of_row _ _ _ _ _ _ P0.out).trans (lk_st k)
  have s15 : w1.cell? ⟨w.heap.size, 15, none⟩ = some (.int .i64 k.tr) := (cell_of_row _ _ _ _ _ _ P0.out).trans (lk_tr k)
  have s16 : w1.cell? ⟨w.heap.size, 16, none⟩ = some (.int .i64 k.du) := (cell_of_row _ _ _ _ _ _ P0.out).trans (lk_du k)
  go_wp2_with (first
    | (with_reducible refine wpList_load_row rfl 27 (.tmp 2) rfl (w.heap.size) rfl 27 (k).cells (0, 0) _ P0.out Try.underlying27 rfl HI.out ?_)
    | ((with_reducible refine wpList_store_rowTo rfl 27 (.tmp 4) (.tmp 26) rfl rfl (w.heap.size + 1) (k).cells ?_ ?_ 27 #[.int .u8 0, .int .u8 0, .int .u8 0, .int .u8 0, .int .u8 0, .int .u8 0, .int .u8 0, .int .u8 0, .int .u8 0, .int .u8 0, .int .u8 0, .int .u8 0, .int .u8 0, .int .i64 0, .int .i64 0, .int .i64 0, .int .i64 0] P1.out HC.out rfl (one_cells _) ?_); (as_aux_lemma => kernel_rfl); (as_aux_lemma => kernel_rfl)))
  refine bodyPost_ret (results_row3 rfl _ _ (w.heap.size + 1) 27 (k).cells (0, 0) _ rfl (setRow_heap _ _ _ _ _ _ P1.out) Try.underlying27 rfl HC.out) rfl ?_
  exact ⟨_, rfl, outAt_nil _ _, below_setRow' HB.out (Nat.le_succ _) _⟩
set_option maxHeartbeats 4000000 in
theorem rtick_hold (k : Lk) (hB : k.By) (hz : 0 ≤ k.st) (now : Int) (h : k.chk = 0) (ht : tinB now = true) (hd : (k.du == 0) = false) (hn : k.du ≤ now) (h5 : k.st = 5) (w : World) : Calls Try.prog 29 #[.agg k.cells, .int .i64 now] w (Ret3 w (endK k) [] 0) := by
  obtain ⟨n0, n1⟩ := tin_in ht
  obtain ⟨i0, i1, j0, j1⟩ := (chk_val h).toIn
  have i2 := ((chk_shape k).1 h).2.1
  obtain ⟨q0, q1⟩ := fr_rows2 w (.cells k.cells 27) (.cells #[.int .u8 0, .int .u8 0, .int .u8 0, .int .u8 0, .int .u8 0, .int .u8 0, .int .u8 0, .int .u8 0, .int .u8 0, .int .u8 0, .int .u8 0, .int .u8 0, .int .u8 0, .int .i64 0, .int .i64 0, .int .i64 0, .int .i64 0] 27)
  have Q0 := Lib.hid q0
  have Q1 := Lib.hid q1
  clear q0 q1
  have HI := Lib.hid (link_info2 k)
  have HC := Lib.hid (link_info2 (endK k))
  have hbv : beforeI k now = 0 := by simp only [beforeI, h, ht]; rfl
  go_enter Try.func29, Try.ntmps29
  go_wp2_with (with_reducible refine wpList_load_row rfl 27 (.tmp 2) rfl (w.heap.size) rfl 27 (k).cells (0, 0) _ Q0.out Try.underlying27 rfl HI.out ?_)
  refine (before_any k hB hz now _).mono ?_
  rintro e w1 ⟨rfl, hb⟩
  have P0 := Lib.hid (row_below hb Q0.out)
  have P1 := Lib.hid (row_below hb Q1.out)
  have HB := Lib.hid (below_step (below_more (below_more (Below.refl w.heap.size w) (.cells k.cells 27)) (.cells #[.int .u8 0, .int .u8 0, .int .u8 0, .int .u8 0, .int .u8 0, .int .u8 0, .int .u8 0, .int .u8 0, .int .u8 0, .int .u8 0, .int .u8 0, .int .u8 0, .int .u8 0, .int .i64 0, .int .i64 0, .int .i64 0, .int .i64 0] 27)) hb)
  clear hb Q0 Q1
  simp only [hbv]
  have s12 : w1.cell? ⟨w.heap.size, 12, none⟩ = some (.int .u8 k.st) := (cell_of_row _ _ _ _ _ _ P0.out).trans (lk_st k)
  have s15 : w1.cell? ⟨w.heap.size, 15, none⟩ = some (.int .i64 k.tr) := (cell_of_row _ _ _ _ _ _ P0.out).trans (lk_tr k)
  have s16 : w1.cell? ⟨w.heap.size, 16, none⟩ = some (.int .i64 k.du) := (cell_of_row _ _ _ _ _ _ P0.out).trans (lk_du k)
  rw [h5] at s12
  go_wp2_with (with_reducible refine wpList_load_row rfl 27 (.tmp 2) rfl (w.heap.size) rfl 27 (k).cells (0, 0) _ P0.out Try.underlying27 rfl HI.out ?_)
  refine (ref_ended k i2.1 i1 _).mono ?_
  rintro e w2 ⟨rfl, hb⟩
  have P2 := Lib.hid (row_below hb P1.out)
  have HB2 := Lib.hid (below_step HB.out hb)
  clear hb
  go_wp2_with ((with_reducible refine wpList_store_rowTo rfl 27 (.tmp 4) (.tmp 31) rfl rfl (w.heap.size + 1) (endK k).cells ?_ ?_ 27 #[.int .u8 0, .int .u8 0, .int .u8 0, .int .u8 0, .int .u8 0, .int .u8 0, .int .u8 0, .int .u8 0, .int .u8 0, .int .u8 0, .int .u8 0, .int .u8 0, .int .u8 0, .int .i64 0, .int .i64 0, .int .i64 0, .int .i64 0] P2.out HC.out rfl (one_cells _) ?_); (as_aux_lemma => kernel_rfl); (as_aux_lemma => kernel_rfl))
  refine bodyPost_ret (results_row3 rfl _ _ (w.heap.size + 1) 27 (endK k).cells (0, 0) _ rfl (setRow_heap _ _ _ _ _ _ P2.out) Try.underlying27 rfl HC.out) rfl ?_
  exact ⟨_, rfl, outAt_nil _ _, below_setRow' HB2.out (Nat.le_succ _) _⟩
set_option maxHeartbeats 4000000 in
theorem rtick_close (k : Lk) (hB : k.By) (hz : 0 ≤ k.st) (now : Int) (h : k.chk = 0) (ht : tinB now = true) (hd : (k.du == 0) = false) (hn : k.du ≤ now) (h5 : (k.st == 5) = false) (h3 : k.tr = 3) (w : World) : Calls Try.prog 29 #[.agg k.cells, .int .i64 now] w (Ret3 w (clK k now) [msgOf 3 k.id k.ot] 0) := by
  obtain ⟨n0, n1⟩ := tin_in ht
  obtain ⟨i0, i1, j0, j1⟩ := (chk_val h).toIn
  have i2 := ((chk_shape k).1 h).2.1
  obtain ⟨q0, q1⟩ := fr_rows2 w (.cells k.cells 27) (.cells #[.int .u8 0, .int .u8 0, .int .u8 0, .int .u8 0, .int .u8 0, .int .u8 0, .int .u8 0, .int .u8 0, .int .u8 0, .int .u8 0, .int .u8 0, .int .u8 0, .int .u8 0, .int .i64 0, .int .i64 0, .int .i64 0, .int .i64 0] 27)
  have Q0 := Lib.hid q0
  have Q1 := Lib.hid q1
  clear q0 q1
  have HI := Lib.hid (link_info2 k)
  have HC := Lib.hid (link_info2 (clK k now))
  have hbv : beforeI k now = 0 := by simp only [beforeI, h, ht]; rfl
  go_enter Try.func29, Try.ntmps29
  go_wp2_with (with_reducible refine wpList_load_row rfl 27 (.tmp 2) rfl (w.heap.size) rfl 27 (k).cells (0, 0) _ Q0.out Try.underlying27 rfl HI.out ?_)
  refine (before_any k hB hz now _).mono ?_
  rintro e w1 ⟨rfl, hb⟩
  have P0 := Lib.hid (row_below hb Q0.out)
  have P1 := Lib.hid (row_below hb Q1.out)
  have HB := Lib.hid (below_step (below_more (below_more (Below.refl w.heap.size w) (.cells k.cells 27)) (.cells #[.int .u8 0, .int .u8 0, .int .u8 0, .int .u8 0, .int .u8 0, .int .u8 0, .int .u8 0, .int .u8 0, .int .u8 0, .int .u8 0, .int .u8 0, .int .u8 0, .int .u8 0, .int .i64 0, .int .i64 0, .int .i64 0, .int .i64 0] 27)) hb)
  clear hb Q0 Q1
  simp only [hbv]
  have s12 : w1.cell? ⟨w.heap.size, 12, none⟩ = some (.int .u8 k.st) := (cell_of_row _ _ _ _ _ _ P0.out).trans (lk_st k)
  have s15 : w1.cell? ⟨w.heap.size, 15, none⟩ = some (.int .i64 k.tr) := (cell_of_row _ _ _ _ _ _ P0.out).trans (lk_tr k)
  have s16 : w1.cell? ⟨w.heap.size, 16, none⟩ = some (.int .i64 k.du) := (cell_of_row _ _ _ _ _ _ P0.out).trans (lk_du k)
  rw [h3] at s15
  go_wp2_with (with_reducible refine wpList_load_row rfl 27 (.tmp 2) rfl (w.heap.size) rfl 27 (k).cells (0, 0) _ P0.out Try.underlying27 rfl HI.out ?_)
  refine (ref_shut k i2.1 i1 j0 j1 now n0 n1 _).mono ?_
  rintro e w3 ⟨v, rfl, hO, hb⟩
  have P5 := Lib.hid (row_below hb P1.out)
  have HB3 := Lib.hid (below_step HB.out hb)
  have hz2 : w.heap.size + 1 < w1.heap.size := row_lt P1.out
  have hz3 : w.heap.size + 1 < w3.heap.size := row_lt P5.out
  have HO := Lib.hid hO
  clear hb hO s12 s15 s16
  have P6 := Lib.hid (row_alloc (o := .cells (clK k now).cells 27) P5.out)
  have P7 := Lib.hid (heap_alloc_new w3 (.cells (clK k now).cells 27))
  go_wp2_with (first
    | ((with_reducible refine wpList_store_rowTo rfl 27 (.tmp 8) (.tmp 39) rfl rfl w3.heap.size (clK k now).cells ?_ ?_ 27 #[.int .u8 0, .int .u8 0, .int .u8 0, .int .u8 0, .int .u8 0, .int .u8 0, .int .u8 0, .int .u8 0, .int .u8 0, .int .u8 0, .int .u8 0, .int .u8 0, .int .u8 0, .int .i64 0, .int .i64 0, .int .i64 0, .int .i64 0] (heap_alloc_new _ _) HC.out rfl (one_cells _) ?_); (as_aux_lemma => kernel_rfl); (as_aux_lemma => kernel_rfl); rw [setRow_alloc])
    | (with_reducible refine wpList_load_row rfl 27 (.tmp 8) rfl (w3.heap.size) rfl 27 (clK k now).cells (0, 0) _ P7.out Try.underlying27 rfl HC.out ?_)
    | ((with_reducible refine wpList_store_rowTo rfl 27 (.tmp 4) (.tmp 41) rfl rfl (w.heap.size + 1) (clK k now).cells ?_ ?_ 27 #[.int .u8 0, .int .u8 0, .int .u8 0, .int .u8 0, .int .u8 0, .int .u8 0, .int .u8 0, .int .u8 0, .int .u8 0, .int .u8 0, .int .u8 0, .int .u8 0, .int .u8 0, .int .i64 0, .int .i64 0, .int .i64 0, .int .i64 0] P6.out HC.out rfl (one_cells _) ?_); (as_aux_lemma => kernel_rfl); (as_aux_lemma => kernel_rfl)))
  refine bodyPost_ret (results_row3 rfl _ _ (w.heap.size + 1) 27 (clK k now).cells (0, 0) _ rfl (setRow_heap _ _ _ _ _ _ P6.out) Try.underlying27 rfl HC.out) rfl ?_
  exact ⟨_, rfl, ((HO.out.below ((Below.refl _ _).alloc (Nat.le_refl _) _)).setRow _ hz2 _).mono HB.out.size, below_setRow' (below_more HB3.out _) (Nat.le_succ _) _⟩
end Go.Proofs.Ytmighkgjbohieaa
