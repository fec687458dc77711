/-
  The contracts of peer's Start, Close and Tick.
-/
import Derived.Test.YtmighkgjbohieaaPeerTail
import Derived.Test.YtmighkgjbohieaaPeerMeth
set_option linter.unusedVariables false
set_option linter.unusedSimpArgs false
namespace Go.Proofs.Ytmighkgjbohieaa
open Go.ChangeShapes Go.WideShapes Go.ChangeAt Go.RowKit Go.Great

def zl : Array Value := #[.int .u8 0, .int .u8 0, .int .u8 0, .int .u8 0, .int .u8 0, .int .u8 0, .int .u8 0, .int .u8 0, .int .u8 0, .int .u8 0, .int .u8 0, .int .u8 0, .int .u8 0, .int .i64 0, .int .i64 0, .int .i64 0, .int .i64 0]
theorem link_infoZ : (Try.prog.info? 27).map (·.size) = some (#[.int .u8 0, .int .u8 0, .int .u8 0, .int .u8 0, .int .u8 0, .int .u8 0, .int .u8 0, .int .u8 0, .int .u8 0, .int .u8 0, .int .u8 0, .int .u8 0, .int .u8 0, .int .i64 0, .int .i64 0, .int .i64 0, .int .i64 0] : Array Value).size := by kernel_rfl
theorem zl_one : (#[.int .u8 0, .int .u8 0, .int .u8 0, .int .u8 0, .int .u8 0, .int .u8 0, .int .u8 0, .int .u8 0, .int .u8 0, .int .u8 0, .int .u8 0, .int .u8 0, .int .u8 0, .int .i64 0, .int .i64 0, .int .i64 0, .int .i64 0] : Array Value).all (·.oneCell') = true := by kernel_rfl
theorem EndAt.setDue {w : World} {b : Nat} {k : Lk} {now : Int} {ms : List (List Int)} (h : EndAt w b k now ms) (t d : Int) : EndAt ((w.setCell ⟨b, 15, none⟩ (.int .i64 t)).setCell ⟨b, 16, none⟩ (.int .i64 d)) b { k with tr := t, du := d } now ms := by
  obtain ⟨v, hr, ho⟩ := h
  exact ⟨v, heap_setCell_same _ _ 16 _ _ _ (heap_setCell_same _ _ 15 _ _ _ hr), (ho.setEnd _ _).setEnd _ _⟩
theorem lk_st (k : Lk) : k.cells[12]? = some (.int .u8 k.st) := rfl
theorem lk_tr (k : Lk) : k.cells[15]? = some (.int .i64 k.tr) := rfl
theorem lk_du (k : Lk) : k.cells[16]? = some (.int .i64 k.du) := rfl

set_option maxHeartbeats 4000000 in
set_option maxRecDepth 100000 in
theorem start_bad (k : Lk) (hB : k.By) (now : Int) (h : k.chk = 8) (w : World) : Calls Try.prog 17 #[.agg k.cells, .int .i64 now] w (Ret3 w zeroLk [] 8) := by
  obtain ⟨rs, rq⟩ := fr_rows2 w (.cells k.cells 27) (.cells #[.int .u8 0, .int .u8 0, .int .u8 0, .int .u8 0, .int .u8 0, .int .u8 0, .int .u8 0, .int .u8 0, .int .u8 0, .int .u8 0, .int .u8 0, .int .u8 0, .int .u8 0, .int .i64 0, .int .i64 0, .int .i64 0, .int .i64 0] 27)
  have R0 := Lib.hid rs
  have Q0 := Lib.hid rq
  have HIK := Lib.hid (link_info2 k)
  have HIZ := Lib.hid link_infoZ
  clear rs rq
  go_enter Try.func17, Try.ntmps17
  go_wp2_with (with_reducible refine wpList_load_row rfl 27 (.tmp 2) rfl w.heap.size rfl 27 k.cells (0, 0) _ R0.out Try.underlying27 rfl HIK.out ?_)
  refine (begun_bad k hB now h _).mono ?_
  rintro e w1 ⟨rfl, hB1⟩
  have HB1 := Lib.hid ((((Below.refl w.heap.size w).alloc (Nat.le_refl _) _).alloc (by simp only [World.size_alloc]; omega) _).trans (hB1.mono (by simp only [World.size_alloc]; omega)))
  have RQ1 := Lib.hid (row_below hB1 Q0.out)
  clear hB1 R0 Q0
  go_wp2_with ((with_reducible refine wpList_store_rowTo rfl 27 (.tmp 4) (.tmp 24) rfl rfl (w.heap.size + 1) #[.int .u8 0, .int .u8 0, .int .u8 0, .int .u8 0, .int .u8 0, .int .u8 0, .int .u8 0, .int .u8 0, .int .u8 0, .int .u8 0, .int .u8 0, .int .u8 0, .int .u8 0, .int .i64 0, .int .i64 0, .int .i64 0, .int .i64 0] ?_ ?_ 27 #[.int .u8 0, .int .u8 0, .int .u8 0, .int .u8 0, .int .u8 0, .int .u8 0, .int .u8 0, .int .u8 0, .int .u8 0, .int .u8 0, .int .u8 0, .int .u8 0, .int .u8 0, .int .i64 0, .int .i64 0, .int .i64 0, .int .i64 0] RQ1.out HIZ.out rfl zl_one ?_); (as_aux_lemma => kernel_rfl); (as_aux_lemma => kernel_rfl))
  refine bodyPost_ret (results_row3 rfl _ _ (w.heap.size + 1) 27 #[.int .u8 0, .int .u8 0, .int .u8 0, .int .u8 0, .int .u8 0, .int .u8 0, .int .u8 0, .int .u8 0, .int .u8 0, .int .u8 0, .int .u8 0, .int .u8 0, .int .u8 0, .int .i64 0, .int .i64 0, .int .i64 0, .int .i64 0] (0, 0) _ rfl (setRow_heap _ _ _ _ _ _ RQ1.out) Try.underlying27 rfl HIZ.out) rfl ?_
  exact ⟨_, rfl, outAt_nil _ _, below_setRow' HB1.out (by omega) _⟩
set_option maxHeartbeats 4000000 in
set_option maxRecDepth 100000 in
theorem start_arg (k : Lk) (hB : k.By) (now : Int) (h : k.chk = 0) (ht : btw now 0 1099511627776 = false) (w : World) : Calls Try.prog 17 #[.agg k.cells, .int .i64 now] w (Ret3 w zeroLk [] 2) := by
  obtain ⟨rs, rq⟩ := fr_rows2 w (.cells k.cells 27) (.cells #[.int .u8 0, .int .u8 0, .int .u8 0, .int .u8 0, .int .u8 0, .int .u8 0, .int .u8 0, .int .u8 0, .int .u8 0, .int .u8 0, .int .u8 0, .int .u8 0, .int .u8 0, .int .i64 0, .int .i64 0, .int .i64 0, .int .i64 0] 27)
  have R0 := Lib.hid rs
  have Q0 := Lib.hid rq
  have HIK := Lib.hid (link_info2 k)
  have HIZ := Lib.hid link_infoZ
  clear rs rq
  go_enter Try.func17, Try.ntmps17
  go_wp2_with (with_reducible refine wpList_load_row rfl 27 (.tmp 2) rfl w.heap.size rfl 27 k.cells (0, 0) _ R0.out Try.underlying27 rfl HIK.out ?_)
  refine (begun_arg k hB now h ht _).mono ?_
  rintro e w1 ⟨rfl, hB1⟩
  have HB1 := Lib.hid ((((Below.refl w.heap.size w).alloc (Nat.le_refl _) _).alloc (by simp only [World.size_alloc]; omega) _).trans (hB1.mono (by simp only [World.size_alloc]; omega)))
  have RQ1 := Lib.hid (row_below hB1 Q0.out)
  clear hB1 R0 Q0
  go_wp2_with ((with_reducible refine wpList_store_rowTo rfl 27 (.tmp 4) (.tmp 24) rfl rfl (w.heap.size + 1) #[.int .u8 0, .int .u8 0, .int .u8 0, .int .u8 0, .int .u8 0, .int .u8 0, .int .u8 0, .int .u8 0, .int .u8 0, .int .u8 0, .int .u8 0, .int .u8 0, .int .u8 0, .int .i64 0, .int .i64 0, .int .i64 0, .int .i64 0] ?_ ?_ 27 #[.int .u8 0, .int .u8 0, .int .u8 0, .int .u8 0, .int .u8 0, .int .u8 0, .int .u8 0, .int .u8 0, .int .u8 0, .int .u8 0, .int .u8 0, .int .u8 0, .int .u8 0, .int .i64 0, .int .i64 0, .int .i64 0, .int .i64 0] RQ1.out HIZ.out rfl zl_one ?_); (as_aux_lemma => kernel_rfl); (as_aux_lemma => kernel_rfl))
  refine bodyPost_ret (results_row3 rfl _ _ (w.heap.size + 1) 27 #[.int .u8 0, .int .u8 0, .int .u8 0, .int .u8 0, .int .u8 0, .int .u8 0, .int .u8 0, .int .u8 0, .int .u8 0, .int .u8 0, .int .u8 0, .int .u8 0, .int .u8 0, .int .i64 0, .int .i64 0, .int .i64 0, .int .i64 0] (0, 0) _ rfl (setRow_heap _ _ _ _ _ _ RQ1.out) Try.underlying27 rfl HIZ.out) rfl ?_
  exact ⟨_, rfl, outAt_nil _ _, below_setRow' HB1.out (by omega) _⟩
set_option maxHeartbeats 4000000 in
set_option maxRecDepth 100000 in
theorem close_bad (k : Lk) (hB : k.By) (now : Int) (h : k.chk = 8) (w : World) : Calls Try.prog 19 #[.agg k.cells, .int .i64 now] w (Ret3 w zeroLk [] 8) := by
  obtain ⟨rs, rq⟩ := fr_rows2 w (.cells k.cells 27) (.cells #[.int .u8 0, .int .u8 0, .int .u8 0, .int .u8 0, .int .u8 0, .int .u8 0, .int .u8 0, .int .u8 0, .int .u8 0, .int .u8 0, .int .u8 0, .int .u8 0, .int .u8 0, .int .i64 0, .int .i64 0, .int .i64 0, .int .i64 0] 27)
  have R0 := Lib.hid rs
  have Q0 := Lib.hid rq
  have HIK := Lib.hid (link_info2 k)
  have HIZ := Lib.hid link_infoZ
  clear rs rq
  go_enter Try.func19, Try.ntmps19
  go_wp2_with (with_reducible refine wpList_load_row rfl 27 (.tmp 2) rfl w.heap.size rfl 27 k.cells (0, 0) _ R0.out Try.underlying27 rfl HIK.out ?_)
  refine (begun_bad k hB now h _).mono ?_
  rintro e w1 ⟨rfl, hB1⟩
  have HB1 := Lib.hid ((((Below.refl w.heap.size w).alloc (Nat.le_refl _) _).alloc (by simp only [World.size_alloc]; omega) _).trans (hB1.mono (by simp only [World.size_alloc]; omega)))
  have RQ1 := Lib.hid (row_below hB1 Q0.out)
  clear hB1 R0 Q0
  go_wp2_with ((with_reducible refine wpList_store_rowTo rfl 27 (.tmp 4) (.tmp 29) rfl rfl (w.heap.size + 1) #[.int .u8 0, .int .u8 0, .int .u8 0, .int .u8 0, .int .u8 0, .int .u8 0, .int .u8 0, .int .u8 0, .int .u8 0, .int .u8 0, .int .u8 0, .int .u8 0, .int .u8 0, .int .i64 0, .int .i64 0, .int .i64 0, .int .i64 0] ?_ ?_ 27 #[.int .u8 0, .int .u8 0, .int .u8 0, .int .u8 0, .int .u8 0, .int .u8 0, .int .u8 0, .int .u8 0, .int .u8 0, .int .u8 0, .int .u8 0, .int .u8 0, .int .u8 0, .int .i64 0, .int .i64 0, .int .i64 0, .int .i64 0] RQ1.out HIZ.out rfl zl_one ?_); (as_aux_lemma => kernel_rfl); (as_aux_lemma => kernel_rfl))
  refine bodyPost_ret (results_row3 rfl _ _ (w.heap.size + 1) 27 #[.int .u8 0, .int .u8 0, .int .u8 0, .int .u8 0, .int .u8 0, .int .u8 0, .int .u8 0, .int .u8 0, .int .u8 0, .int .u8 0, .int .u8 0, .int .u8 0, .int .u8 0, .int .i64 0, .int .i64 0, .int .i64 0, .int .i64 0] (0, 0) _ rfl (setRow_heap _ _ _ _ _ _ RQ1.out) Try.underlying27 rfl HIZ.out) rfl ?_
  exact ⟨_, rfl, outAt_nil _ _, below_setRow' HB1.out (by omega) _⟩
set_option maxHeartbeats 4000000 in
set_option maxRecDepth 100000 in
theorem close_arg (k : Lk) (hB : k.By) (now : Int) (h : k.chk = 0) (ht : btw now 0 1099511627776 = false) (w : World) : Calls Try.prog 19 #[.agg k.cells, .int .i64 now] w (Ret3 w zeroLk [] 2) := by
  obtain ⟨rs, rq⟩ := fr_rows2 w (.cells k.cells 27) (.cells #[.int .u8 0, .int .u8 0, .int .u8 0, .int .u8 0, .int .u8 0, .int .u8 0, .int .u8 0, .int .u8 0, .int .u8 0, .int .u8 0, .int .u8 0, .int .u8 0, .int .u8 0, .int .i64 0, .int .i64 0, .int .i64 0, .int .i64 0] 27)
  have R0 := Lib.hid rs
  have Q0 := Lib.hid rq
  have HIK := Lib.hid (link_info2 k)
  have HIZ := Lib.hid link_infoZ
  clear rs rq
  go_enter Try.func19, Try.ntmps19
  go_wp2_with (with_reducible refine wpList_load_row rfl 27 (.tmp 2) rfl w.heap.size rfl 27 k.cells (0, 0) _ R0.out Try.underlying27 rfl HIK.out ?_)
  refine (begun_arg k hB now h ht _).mono ?_
  rintro e w1 ⟨rfl, hB1⟩
  have HB1 := Lib.hid ((((Below.refl w.heap.size w).alloc (Nat.le_refl _) _).alloc (by simp only [World.size_alloc]; omega) _).trans (hB1.mono (by simp only [World.size_alloc]; omega)))
  have RQ1 := Lib.hid (row_below hB1 Q0.out)
  clear hB1 R0 Q0
  go_wp2_with ((with_reducible refine wpList_store_rowTo rfl 27 (.tmp 4) (.tmp 29) rfl rfl (w.heap.size + 1) #[.int .u8 0, .int .u8 0, .int .u8 0, .int .u8 0, .int .u8 0, .int .u8 0, .int .u8 0, .int .u8 0, .int .u8 0, .int .u8 0, .int .u8 0, .int .u8 0, .int .u8 0, .int .i64 0, .int .i64 0, .int .i64 0, .int .i64 0] ?_ ?_ 27 #[.int .u8 0, .int .u8 0, .int .u8 0, .int .u8 0, .int .u8 0, .int .u8 0, .int .u8 0, .int .u8 0, .int .u8 0, .int .u8 0, .int .u8 0, .int .u8 0, .int .u8 0, .int .i64 0, .int .i64 0, .int .i64 0, .int .i64 0] RQ1.out HIZ.out rfl zl_one ?_); (as_aux_lemma => kernel_rfl); (as_aux_lemma => kernel_rfl))
  refine bodyPost_ret (results_row3 rfl _ _ (w.heap.size + 1) 27 #[.int .u8 0, .int .u8 0, .int .u8 0, .int .u8 0, .int .u8 0, .int .u8 0, .int .u8 0, .int .u8 0, .int .u8 0, .int .u8 0, .int .u8 0, .int .u8 0, .int .u8 0, .int .i64 0, .int .i64 0, .int .i64 0, .int .i64 0] (0, 0) _ rfl (setRow_heap _ _ _ _ _ _ RQ1.out) Try.underlying27 rfl HIZ.out) rfl ?_
  exact ⟨_, rfl, outAt_nil _ _, below_setRow' HB1.out (by omega) _⟩
set_option maxHeartbeats 4000000 in
set_option maxRecDepth 100000 in
theorem tick_bad (k : Lk) (hB : k.By) (now : Int) (h : k.chk = 8) (w : World) : Calls Try.prog 21 #[.agg k.cells, .int .i64 now] w (Ret3 w zeroLk [] 8) := by
  obtain ⟨rs, rq⟩ := fr_rows2 w (.cells k.cells 27) (.cells #[.int .u8 0, .int .u8 0, .int .u8 0, .int .u8 0, .int .u8 0, .int .u8 0, .int .u8 0, .int .u8 0, .int .u8 0, .int .u8 0, .int .u8 0, .int .u8 0, .int .u8 0, .int .i64 0, .int .i64 0, .int .i64 0, .int .i64 0] 27)
  have R0 := Lib.hid rs
  have Q0 := Lib.hid rq
  have HIK := Lib.hid (link_info2 k)
  have HIZ := Lib.hid link_infoZ
  clear rs rq
  go_enter Try.func21, Try.ntmps21
  go_wp2_with (with_reducible refine wpList_load_row rfl 27 (.tmp 2) rfl w.heap.size rfl 27 k.cells (0, 0) _ R0.out Try.underlying27 rfl HIK.out ?_)
  refine (begun_bad k hB now h _).mono ?_
  rintro e w1 ⟨rfl, hB1⟩
  have HB1 := Lib.hid ((((Below.refl w.heap.size w).alloc (Nat.le_refl _) _).alloc (by simp only [World.size_alloc]; omega) _).trans (hB1.mono (by simp only [World.size_alloc]; omega)))
  have RQ1 := Lib.hid (row_below hB1 Q0.out)
  clear hB1 R0 Q0
  go_wp2_with ((with_reducible refine wpList_store_rowTo rfl 27 (.tmp 4) (.tmp 17) rfl rfl (w.heap.size + 1) #[.int .u8 0, .int .u8 0, .int .u8 0, .int .u8 0, .int .u8 0, .int .u8 0, .int .u8 0, .int .u8 0, .int .u8 0, .int .u8 0, .int .u8 0, .int .u8 0, .int .u8 0, .int .i64 0, .int .i64 0, .int .i64 0, .int .i64 0] ?_ ?_ 27 #[.int .u8 0, .int .u8 0, .int .u8 0, .int .u8 0, .int .u8 0, .int .u8 0, .int .u8 0, .int .u8 0, .int .u8 0, .int .u8 0, .int .u8 0, .int .u8 0, .int .u8 0, .int .i64 0, .int .i64 0, .int .i64 0, .int .i64 0] RQ1.out HIZ.out rfl zl_one ?_); (as_aux_lemma => kernel_rfl); (as_aux_lemma => kernel_rfl))
  refine bodyPost_ret (results_row3 rfl _ _ (w.heap.size + 1) 27 #[.int .u8 0, .int .u8 0, .int .u8 0, .int .u8 0, .int .u8 0, .int .u8 0, .int .u8 0, .int .u8 0, .int .u8 0, .int .u8 0, .int .u8 0, .int .u8 0, .int .u8 0, .int .i64 0, .int .i64 0, .int .i64 0, .int .i64 0] (0, 0) _ rfl (setRow_heap _ _ _ _ _ _ RQ1.out) Try.underlying27 rfl HIZ.out) rfl ?_
  exact ⟨_, rfl, outAt_nil _ _, below_setRow' HB1.out (by omega) _⟩
set_option maxHeartbeats 4000000 in
set_option maxRecDepth 100000 in
theorem tick_arg (k : Lk) (hB : k.By) (now : Int) (h : k.chk = 0) (ht : btw now 0 1099511627776 = false) (w : World) : Calls Try.prog 21 #[.agg k.cells, .int .i64 now] w (Ret3 w zeroLk [] 2) := by
  obtain ⟨rs, rq⟩ := fr_rows2 w (.cells k.cells 27) (.cells #[.int .u8 0, .int .u8 0, .int .u8 0, .int .u8 0, .int .u8 0, .int .u8 0, .int .u8 0, .int .u8 0, .int .u8 0, .int .u8 0, .int .u8 0, .int .u8 0, .int .u8 0, .int .i64 0, .int .i64 0, .int .i64 0, .int .i64 0] 27)
  have R0 := Lib.hid rs
  have Q0 := Lib.hid rq
  have HIK := Lib.hid (link_info2 k)
  have HIZ := Lib.hid link_infoZ
  clear rs rq
  go_enter Try.func21, Try.ntmps21
  go_wp2_with (with_reducible refine wpList_load_row rfl 27 (.tmp 2) rfl w.heap.size rfl 27 k.cells (0, 0) _ R0.out Try.underlying27 rfl HIK.out ?_)
  refine (begun_arg k hB now h ht _).mono ?_
  rintro e w1 ⟨rfl, hB1⟩
  have HB1 := Lib.hid ((((Below.refl w.heap.size w).alloc (Nat.le_refl _) _).alloc (by simp only [World.size_alloc]; omega) _).trans (hB1.mono (by simp only [World.size_alloc]; omega)))
  have RQ1 := Lib.hid (row_below hB1 Q0.out)
  clear hB1 R0 Q0
  go_wp2_with ((with_reducible refine wpList_store_rowTo rfl 27 (.tmp 4) (.tmp 17) rfl rfl (w.heap.size + 1) #[.int .u8 0, .int .u8 0, .int .u8 0, .int .u8 0, .int .u8 0, .int .u8 0, .int .u8 0, .int .u8 0, .int .u8 0, .int .u8 0, .int .u8 0, .int .u8 0, .int .u8 0, .int .i64 0, .int .i64 0, .int .i64 0, .int .i64 0] ?_ ?_ 27 #[.int .u8 0, .int .u8 0, .int .u8 0, .int .u8 0, .int .u8 0, .int .u8 0, .int .u8 0, .int .u8 0, .int .u8 0, .int .u8 0, .int .u8 0, .int .u8 0, .int .u8 0, .int .i64 0, .int .i64 0, .int .i64 0, .int .i64 0] RQ1.out HIZ.out rfl zl_one ?_); (as_aux_lemma => kernel_rfl); (as_aux_lemma => kernel_rfl))
  refine bodyPost_ret (results_row3 rfl _ _ (w.heap.size + 1) 27 #[.int .u8 0, .int .u8 0, .int .u8 0, .int .u8 0, .int .u8 0, .int .u8 0, .int .u8 0, .int .u8 0, .int .u8 0, .int .u8 0, .int .u8 0, .int .u8 0, .int .u8 0, .int .i64 0, .int .i64 0, .int .i64 0, .int .i64 0] (0, 0) _ rfl (setRow_heap _ _ _ _ _ _ RQ1.out) Try.underlying27 rfl HIZ.out) rfl ?_
  exact ⟨_, rfl, outAt_nil _ _, below_setRow' HB1.out (by omega) _⟩
set_option maxHeartbeats 4000000 in
set_option maxRecDepth 100000 in
theorem start_state (k : Lk) (hB : k.By) (now : Int) (h : k.chk = 0) (ht : btw now 0 1099511627776 = true) (hn0 : 0 ≤ now) (hn1 : now ≤ 1099511627776) (hI : k.In) (hs : (k.st == 0) = false) (w : World) : Calls Try.prog 17 #[.agg k.cells, .int .i64 now] w (Ret3 w zeroLk [] 20) := by
  have hs2 : (k.st != 0) = true := by simp only [bne, hs]; rfl
  obtain ⟨rs, rq⟩ := fr_rows2 w (.cells k.cells 27) (.cells #[.int .u8 0, .int .u8 0, .int .u8 0, .int .u8 0, .int .u8 0, .int .u8 0, .int .u8 0, .int .u8 0, .int .u8 0, .int .u8 0, .int .u8 0, .int .u8 0, .int .u8 0, .int .i64 0, .int .i64 0, .int .i64 0, .int .i64 0] 27)
  have R0 := Lib.hid rs
  have Q0 := Lib.hid rq
  have HIK := Lib.hid (link_info2 k)
  have HIZ := Lib.hid link_infoZ
  clear rs rq
  go_enter Try.func17, Try.ntmps17
  go_wp2_with (with_reducible refine wpList_load_row rfl 27 (.tmp 2) rfl w.heap.size rfl 27 k.cells (0, 0) _ R0.out Try.underlying27 rfl HIK.out ?_)
  refine (begun_ok k hB now h ht _).mono ?_
  rintro e w1 ⟨b, rfl, hE, hb, hB1⟩
  have HE := Lib.hid hE
  have hbz : w.heap.size + 1 + 1 ≤ b := by simpa only [World.size_alloc] using hb
  have RS := Lib.hid (row_below hB1 R0.out)
  have RQ1 := Lib.hid (row_below hB1 Q0.out)
  have HB1 := Lib.hid ((((Below.refl w.heap.size w).alloc (Nat.le_refl _) _).alloc (by simp only [World.size_alloc]; omega) _).trans (hB1.mono (by simp only [World.size_alloc]; omega)))
  clear hE hB1 R0 Q0 hb
  have s12 : w1.cell? ⟨w.heap.size, 12, none⟩ = some (.int .u8 k.st) := (cell_of_row _ _ _ _ _ _ RS.out).trans (lk_st k)
  have s15 : w1.cell? ⟨w.heap.size, 15, none⟩ = some (.int .i64 k.tr) := (cell_of_row _ _ _ _ _ _ RS.out).trans (lk_tr k)
  have s16 : w1.cell? ⟨w.heap.size, 16, none⟩ = some (.int .i64 k.du) := (cell_of_row _ _ _ _ _ _ RS.out).trans (lk_du k)
  go_wp2_with ((with_reducible refine wpList_store_rowTo rfl 27 (.tmp 4) (.tmp 24) rfl rfl (w.heap.size + 1) #[.int .u8 0, .int .u8 0, .int .u8 0, .int .u8 0, .int .u8 0, .int .u8 0, .int .u8 0, .int .u8 0, .int .u8 0, .int .u8 0, .int .u8 0, .int .u8 0, .int .u8 0, .int .i64 0, .int .i64 0, .int .i64 0, .int .i64 0] ?_ ?_ 27 #[.int .u8 0, .int .u8 0, .int .u8 0, .int .u8 0, .int .u8 0, .int .u8 0, .int .u8 0, .int .u8 0, .int .u8 0, .int .u8 0, .int .u8 0, .int .u8 0, .int .u8 0, .int .i64 0, .int .i64 0, .int .i64 0, .int .i64 0] RQ1.out HIZ.out rfl zl_one ?_); (as_aux_lemma => kernel_rfl); (as_aux_lemma => kernel_rfl))
  refine bodyPost_ret (results_row3 rfl _ _ (w.heap.size + 1) 27 #[.int .u8 0, .int .u8 0, .int .u8 0, .int .u8 0, .int .u8 0, .int .u8 0, .int .u8 0, .int .u8 0, .int .u8 0, .int .u8 0, .int .u8 0, .int .u8 0, .int .u8 0, .int .i64 0, .int .i64 0, .int .i64 0, .int .i64 0] (0, 0) _ rfl (setRow_heap _ _ _ _ _ _ RQ1.out) Try.underlying27 rfl HIZ.out) rfl ?_
  exact ⟨_, rfl, outAt_nil _ _, below_setRow' HB1.out (by omega) _⟩
set_option maxHeartbeats 4000000 in
set_option maxRecDepth 100000 in
theorem start_ok (k : Lk) (hB : k.By) (now : Int) (h : k.chk = 0) (ht : btw now 0 1099511627776 = true) (hn0 : 0 ≤ now) (hn1 : now ≤ 1099511627776) (hI : k.In) (hs : k.st = 0) (w : World) : Calls Try.prog 17 #[.agg k.cells, .int .i64 now] w (Ret3 w (waitK k 1 now) [msgOf 1 k.id 0] 0) := by
  obtain ⟨hid0, hid1, hot0, hot1⟩ := hI
  obtain ⟨rs, rq⟩ := fr_rows2 w (.cells k.cells 27) (.cells #[.int .u8 0, .int .u8 0, .int .u8 0, .int .u8 0, .int .u8 0, .int .u8 0, .int .u8 0, .int .u8 0, .int .u8 0, .int .u8 0, .int .u8 0, .int .u8 0, .int .u8 0, .int .i64 0, .int .i64 0, .int .i64 0, .int .i64 0] 27)
  have R0 := Lib.hid rs
  have Q0 := Lib.hid rq
  have HIK := Lib.hid (link_info2 k)
  have HIZ := Lib.hid link_infoZ
  clear rs rq
  go_enter Try.func17, Try.ntmps17
  go_wp2_with (with_reducible refine wpList_load_row rfl 27 (.tmp 2) rfl w.heap.size rfl 27 k.cells (0, 0) _ R0.out Try.underlying27 rfl HIK.out ?_)
  refine (begun_ok k hB now h ht _).mono ?_
  rintro e w1 ⟨b, rfl, hE, hb, hB1⟩
  have HE := Lib.hid hE
  have hbz : w.heap.size + 1 + 1 ≤ b := by simpa only [World.size_alloc] using hb
  have RS := Lib.hid (row_below hB1 R0.out)
  have RQ1 := Lib.hid (row_below hB1 Q0.out)
  have HB1 := Lib.hid ((((Below.refl w.heap.size w).alloc (Nat.le_refl _) _).alloc (by simp only [World.size_alloc]; omega) _).trans (hB1.mono (by simp only [World.size_alloc]; omega)))
  clear hE hB1 R0 Q0 hb
  have s12 : w1.cell? ⟨w.heap.size, 12, none⟩ = some (.int .u8 k.st) := (cell_of_row _ _ _ _ _ _ RS.out).trans (lk_st k)
  have s15 : w1.cell? ⟨w.heap.size, 15, none⟩ = some (.int .i64 k.tr) := (cell_of_row _ _ _ _ _ _ RS.out).trans (lk_tr k)
  have s16 : w1.cell? ⟨w.heap.size, 16, none⟩ = some (.int .i64 k.du) := (cell_of_row _ _ _ _ _ _ RS.out).trans (lk_du k)
  go_wp2_with fail
  refine (send_end b k now [] 1 0 (by decide) (by omega) hid1 (by decide) (by decide) _ HE.out).mono ?_
  rintro e w2 ⟨rfl, hE2, hb2⟩
  have HE2 := Lib.hid hE2
  have RQ2 := Lib.hid (show w2.heap[w.heap.size + 1]? = some (.cells #[.int .u8 0, .int .u8 0, .int .u8 0, .int .u8 0, .int .u8 0, .int .u8 0, .int .u8 0, .int .u8 0, .int .u8 0, .int .u8 0, .int .u8 0, .int .u8 0, .int .u8 0, .int .i64 0, .int .i64 0, .int .i64 0, .int .i64 0] 27) from (hb2.block _ (by omega)).trans RQ1.out)
  have HB2 := Lib.hid (HB1.out.trans (hb2.mono (by omega)))
  have RS2 := Lib.hid (show w2.heap[w.heap.size]? = some (.cells k.cells 27) from (hb2.block _ (by omega)).trans RS.out)
  clear hE2 hb2
  clear s12 s15 s16
  go_wp2_with fail
  refine (wait_end b k now _ 1 hn0 hn1 _ HE2.out).mono ?_
  rintro e w3 ⟨rfl, hE3, hb3⟩
  have HE3 := Lib.hid hE3
  have RQ3 := Lib.hid (show w3.heap[w.heap.size + 1]? = some (.cells #[.int .u8 0, .int .u8 0, .int .u8 0, .int .u8 0, .int .u8 0, .int .u8 0, .int .u8 0, .int .u8 0, .int .u8 0, .int .u8 0, .int .u8 0, .int .u8 0, .int .u8 0, .int .i64 0, .int .i64 0, .int .i64 0, .int .i64 0] 27) from (hb3.block _ (by omega)).trans RQ2.out)
  have HB3 := Lib.hid (HB2.out.trans (hb3.mono (by omega)))
  have RS3 := Lib.hid (show w3.heap[w.heap.size]? = some (.cells k.cells 27) from (hb3.block _ (by omega)).trans RS2.out)
  clear hE3 hb3
  obtain ⟨v, hr, ho⟩ := HE3.out
  have HR := Lib.hid hr
  have HO := Lib.hid ho
  have RQ := RQ3
  have HB := HB3
  clear hr ho
  go_wp2_with fail
  have HI := Lib.hid (link_info2 (waitK k 1 now))
  refine wp_region_held_drew (S := fun w' => w'.heap[b]? = some (.cells (endCells (waitK k 1 now) now v) 72)) (by kernel_rfl) HR.out (fun hHeld => ?_)
  refine wpAnyH_take (i := 0) (v := .pointer (some ⟨b, 0, none⟩)) rfl (by kernel_rfl) (by kernel_rfl) (by kernel_rfl) (fun _ _ _ h => h) (Or.inl ⟨by rfl, by intro w hSw; clear hHeld; go_simp⟩) (by assumption) ?_
  simp only [Act.put, List.setIfInBounds_toArray, List.set_cons_zero, List.set_cons_succ, List.getElem_toArray, List.getElem_cons_succ, List.getElem_cons_zero]
  refine wpAnyH_take (i := 1) (v := .pointer (some ⟨b, 0, none⟩)) rfl (by kernel_rfl) (by kernel_rfl) (by kernel_rfl) (fun _ _ _ h => h) (Or.inl ⟨by rfl, by intro w hSw; clear hHeld; go_simp⟩) (by assumption) ?_
  simp only [Act.put, List.setIfInBounds_toArray, List.set_cons_zero, List.set_cons_succ, List.getElem_toArray, List.getElem_cons_succ, List.getElem_cons_zero]
  refine wpAnyH_take (i := 2) (v := .pointer (some ⟨b, 0, none⟩)) rfl (by kernel_rfl) (by kernel_rfl) (by kernel_rfl) (fun _ _ _ h => h) (Or.inl ⟨by rfl, by intro w hSw; clear hHeld; go_simp⟩) (by assumption) ?_
  simp only [Act.put, List.setIfInBounds_toArray, List.set_cons_zero, List.set_cons_succ, List.getElem_toArray, List.getElem_cons_succ, List.getElem_cons_zero]
  refine wpAnyH_take (i := 3) (v := .agg ((waitK k 1 now)).cells) rfl (by kernel_rfl) (by kernel_rfl) (by kernel_rfl) (fun _ _ _ h => h) (yields_row (by rfl) 27 _ rfl b (by rfl) ((waitK k 1 now)).cells _ (fun w' h' => range_end h') Try.underlying27 rfl HI.out) (by assumption) ?_
  simp only [Act.put, List.setIfInBounds_toArray, List.set_cons_zero, List.set_cons_succ, List.getElem_toArray, List.getElem_cons_succ, List.getElem_cons_zero]
  refine wpAnyH_take (i := 4) (v := .pointer (some ⟨b, 0, none⟩)) rfl (by kernel_rfl) (by kernel_rfl) (by kernel_rfl) (fun _ _ _ h => h) (Or.inl ⟨by rfl, by intro w hSw; clear hHeld; go_simp⟩) (by assumption) ?_
  simp only [Act.put, List.setIfInBounds_toArray, List.set_cons_zero, List.set_cons_succ, List.getElem_toArray, List.getElem_cons_succ, List.getElem_cons_zero]
  refine wpAnyH_take (i := 5) (v := .pointer (some ⟨b, 0, none⟩)) rfl (by kernel_rfl) (by kernel_rfl) (by kernel_rfl) (fun _ _ _ h => h) (Or.inl ⟨by rfl, by intro w hSw; clear hHeld; go_simp⟩) (by assumption) ?_
  simp only [Act.put, List.setIfInBounds_toArray, List.set_cons_zero, List.set_cons_succ, List.getElem_toArray, List.getElem_cons_succ, List.getElem_cons_zero]
  refine wpAnyH_take (i := 6) (v := .pointer (some ⟨b, 18, none⟩)) rfl (by kernel_rfl) (by kernel_rfl) (by kernel_rfl) (fun _ _ _ h => h) (Or.inl ⟨by rfl, by intro w hSw; clear hHeld; go_simp⟩) (by assumption) ?_
  simp only [Act.put, List.setIfInBounds_toArray, List.set_cons_zero, List.set_cons_succ, List.getElem_toArray, List.getElem_cons_succ, List.getElem_cons_zero]
  refine wpAnyH_take (i := 7) (v := v) rfl (by kernel_rfl) (by kernel_rfl) (by kernel_rfl) (fun _ _ _ h => h) (Or.inl ⟨by rfl, by intro w hSw; clear hHeld; have c18 : w.cell? ⟨b, 18, none⟩ = some v := (cell_of_row _ _ _ _ _ _ hSw).trans rfl; clear hSw; go_simp⟩) (by assumption) ?_
  simp only [Act.put, List.setIfInBounds_toArray, List.set_cons_zero, List.set_cons_succ, List.getElem_toArray, List.getElem_cons_succ, List.getElem_cons_zero]
  refine wpAnyH_ready (rs := [8]) (by kernel_rfl) (by simp) ?_
  refine AllReadyH.cons (i := 8) (rs := []) rfl ?_ AllReadyH.nil
  intro Kq hKq
  simp only [List.getElem_toArray, List.getElem_cons_succ, List.getElem_cons_zero]
  rw [if_pos (by rfl)]
  refine wp_store_row 27 (.tmp 4) (.tmp 33) (by rfl) (w.heap.size + 1) ((waitK k 1 now)).cells (by as_aux_lemma => kernel_rfl) (by as_aux_lemma => kernel_rfl) 27 #[.int .u8 0, .int .u8 0, .int .u8 0, .int .u8 0, .int .u8 0, .int .u8 0, .int .u8 0, .int .u8 0, .int .u8 0, .int .u8 0, .int .u8 0, .int .u8 0, .int .u8 0, .int .i64 0, .int .i64 0, .int .i64 0, .int .i64 0] RQ.out HI.out (by as_aux_lemma => kernel_rfl) (one_cells _) ?_
  refine hKq.out _ _ ((setRow_other _ _ _ _ (by omega)).trans HR.out) (fun hHeld2 => ?_)
  clear hKq Kq hHeld
  have hHeld := hHeld2
  clear hHeld2
  refine wpAnyH_take (i := 9) (v := v) rfl (by kernel_rfl) (by kernel_rfl) (by kernel_rfl) (fun _ _ _ h => h) (Or.inl ⟨by rfl, by intro w hSw; clear hHeld; go_simp⟩) (by assumption) ?_
  simp only [Act.put, List.setIfInBounds_toArray, List.set_cons_zero, List.set_cons_succ, List.getElem_toArray, List.getElem_cons_succ, List.getElem_cons_zero]
  refine wpAnyH_take (i := 10) (v := .int .i64 0) rfl (by kernel_rfl) (by kernel_rfl) (by kernel_rfl) (fun _ _ _ h => h) (Or.inl ⟨by rfl, by intro w hSw; clear hHeld; go_simp⟩) (by assumption) ?_
  simp only [Act.put, List.setIfInBounds_toArray, List.set_cons_zero, List.set_cons_succ, List.getElem_toArray, List.getElem_cons_succ, List.getElem_cons_zero]
  clear hHeld
  refine wpAnyH_done (by kernel_rfl) ?_ _
  go_wp2
  refine bodyPost_ret (results_row3 rfl _ _ (w.heap.size + 1) 27 ((waitK k 1 now)).cells (0, 0) _ rfl (setRow_heap _ _ _ _ _ _ (row_drew RQ.out)) Try.underlying27 rfl HI.out) rfl ?_
  exact ⟨v, rfl, (HO.out.drew.setRow _ (by omega) _).mono (by omega), below_setRow' HB.out.drew (by omega) _⟩
set_option maxHeartbeats 4000000 in
set_option maxRecDepth 100000 in
theorem close_state (k : Lk) (hB : k.By) (now : Int) (h : k.chk = 0) (ht : btw now 0 1099511627776 = true) (hn0 : 0 ≤ now) (hn1 : now ≤ 1099511627776) (hI : k.In) (hs : k.st = 0 ∨ k.st = 5) (w : World) : Calls Try.prog 19 #[.agg k.cells, .int .i64 now] w (Ret3 w zeroLk [] 20) := by
  obtain ⟨rs, rq⟩ := fr_rows2 w (.cells k.cells 27) (.cells #[.int .u8 0, .int .u8 0, .int .u8 0, .int .u8 0, .int .u8 0, .int .u8 0, .int .u8 0, .int .u8 0, .int .u8 0, .int .u8 0, .int .u8 0, .int .u8 0, .int .u8 0, .int .i64 0, .int .i64 0, .int .i64 0, .int .i64 0] 27)
  have R0 := Lib.hid rs
  have Q0 := Lib.hid rq
  have HIK := Lib.hid (link_info2 k)
  have HIZ := Lib.hid link_infoZ
  clear rs rq
  go_enter Try.func19, Try.ntmps19
  go_wp2_with (with_reducible refine wpList_load_row rfl 27 (.tmp 2) rfl w.heap.size rfl 27 k.cells (0, 0) _ R0.out Try.underlying27 rfl HIK.out ?_)
  refine (begun_ok k hB now h ht _).mono ?_
  rintro e w1 ⟨b, rfl, hE, hb, hB1⟩
  have HE := Lib.hid hE
  have hbz : w.heap.size + 1 + 1 ≤ b := by simpa only [World.size_alloc] using hb
  have RS := Lib.hid (row_below hB1 R0.out)
  have RQ1 := Lib.hid (row_below hB1 Q0.out)
  have HB1 := Lib.hid ((((Below.refl w.heap.size w).alloc (Nat.le_refl _) _).alloc (by simp only [World.size_alloc]; omega) _).trans (hB1.mono (by simp only [World.size_alloc]; omega)))
  clear hE hB1 R0 Q0 hb
  have s12 : w1.cell? ⟨w.heap.size, 12, none⟩ = some (.int .u8 k.st) := (cell_of_row _ _ _ _ _ _ RS.out).trans (lk_st k)
  have s15 : w1.cell? ⟨w.heap.size, 15, none⟩ = some (.int .i64 k.tr) := (cell_of_row _ _ _ _ _ _ RS.out).trans (lk_tr k)
  have s16 : w1.cell? ⟨w.heap.size, 16, none⟩ = some (.int .i64 k.du) := (cell_of_row _ _ _ _ _ _ RS.out).trans (lk_du k)
  rcases hs with hs | hs
  all_goals
    go_wp2_with ((with_reducible refine wpList_store_rowTo rfl 27 (.tmp 4) (.tmp 29) rfl rfl (w.heap.size + 1) #[.int .u8 0, .int .u8 0, .int .u8 0, .int .u8 0, .int .u8 0, .int .u8 0, .int .u8 0, .int .u8 0, .int .u8 0, .int .u8 0, .int .u8 0, .int .u8 0, .int .u8 0, .int .i64 0, .int .i64 0, .int .i64 0, .int .i64 0] ?_ ?_ 27 #[.int .u8 0, .int .u8 0, .int .u8 0, .int .u8 0, .int .u8 0, .int .u8 0, .int .u8 0, .int .u8 0, .int .u8 0, .int .u8 0, .int .u8 0, .int .u8 0, .int .u8 0, .int .i64 0, .int .i64 0, .int .i64 0, .int .i64 0] RQ1.out HIZ.out rfl zl_one ?_); (as_aux_lemma => kernel_rfl); (as_aux_lemma => kernel_rfl))
    refine bodyPost_ret (results_row3 rfl _ _ (w.heap.size + 1) 27 #[.int .u8 0, .int .u8 0, .int .u8 0, .int .u8 0, .int .u8 0, .int .u8 0, .int .u8 0, .int .u8 0, .int .u8 0, .int .u8 0, .int .u8 0, .int .u8 0, .int .u8 0, .int .i64 0, .int .i64 0, .int .i64 0, .int .i64 0] (0, 0) _ rfl (setRow_heap _ _ _ _ _ _ RQ1.out) Try.underlying27 rfl HIZ.out) rfl ?_
    exact ⟨_, rfl, outAt_nil _ _, below_setRow' HB1.out (by omega) _⟩
set_option maxHeartbeats 4000000 in
set_option maxRecDepth 100000 in
theorem close_ok (k : Lk) (hB : k.By) (now : Int) (h : k.chk = 0) (ht : btw now 0 1099511627776 = true) (hn0 : 0 ≤ now) (hn1 : now ≤ 1099511627776) (hI : k.In) (hs0 : (k.st == 0) = false) (hs : (k.st == 5) = false) (w : World) : Calls Try.prog 19 #[.agg k.cells, .int .i64 now] w (Ret3 w (clK k now) [msgOf 3 k.id k.ot] 0) := by
  obtain ⟨hid0, hid1, hot0, hot1⟩ := hI
  obtain ⟨rs, rq⟩ := fr_rows2 w (.cells k.cells 27) (.cells #[.int .u8 0, .int .u8 0, .int .u8 0, .int .u8 0, .int .u8 0, .int .u8 0, .int .u8 0, .int .u8 0, .int .u8 0, .int .u8 0, .int .u8 0, .int .u8 0, .int .u8 0, .int .i64 0, .int .i64 0, .int .i64 0, .int .i64 0] 27)
  have R0 := Lib.hid rs
  have Q0 := Lib.hid rq
  have HIK := Lib.hid (link_info2 k)
  have HIZ := Lib.hid link_infoZ
  clear rs rq
  go_enter Try.func19, Try.ntmps19
  go_wp2_with (with_reducible refine wpList_load_row rfl 27 (.tmp 2) rfl w.heap.size rfl 27 k.cells (0, 0) _ R0.out Try.underlying27 rfl HIK.out ?_)
  refine (begun_ok k hB now h ht _).mono ?_
  rintro e w1 ⟨b, rfl, hE, hb, hB1⟩
  have HE := Lib.hid hE
  have hbz : w.heap.size + 1 + 1 ≤ b := by simpa only [World.size_alloc] using hb
  have RS := Lib.hid (row_below hB1 R0.out)
  have RQ1 := Lib.hid (row_below hB1 Q0.out)
  have HB1 := Lib.hid ((((Below.refl w.heap.size w).alloc (Nat.le_refl _) _).alloc (by simp only [World.size_alloc]; omega) _).trans (hB1.mono (by simp only [World.size_alloc]; omega)))
  clear hE hB1 R0 Q0 hb
  have s12 : w1.cell? ⟨w.heap.size, 12, none⟩ = some (.int .u8 k.st) := (cell_of_row _ _ _ _ _ _ RS.out).trans (lk_st k)
  have s15 : w1.cell? ⟨w.heap.size, 15, none⟩ = some (.int .i64 k.tr) := (cell_of_row _ _ _ _ _ _ RS.out).trans (lk_tr k)
  have s16 : w1.cell? ⟨w.heap.size, 16, none⟩ = some (.int .i64 k.du) := (cell_of_row _ _ _ _ _ _ RS.out).trans (lk_du k)
  go_wp2_with fail
  refine (close_end b k now [] (by decide) (by omega) hid1 hot0 hot1 hn0 hn1 _ HE.out).mono ?_
  rintro e w2 ⟨rfl, hE2, hb2⟩
  have HE2 := Lib.hid hE2
  have RQ2 := Lib.hid (show w2.heap[w.heap.size + 1]? = some (.cells #[.int .u8 0, .int .u8 0, .int .u8 0, .int .u8 0, .int .u8 0, .int .u8 0, .int .u8 0, .int .u8 0, .int .u8 0, .int .u8 0, .int .u8 0, .int .u8 0, .int .u8 0, .int .i64 0, .int .i64 0, .int .i64 0, .int .i64 0] 27) from (hb2.block _ (by omega)).trans RQ1.out)
  have HB2 := Lib.hid (HB1.out.trans (hb2.mono (by omega)))
  have RS2 := Lib.hid (show w2.heap[w.heap.size]? = some (.cells k.cells 27) from (hb2.block _ (by omega)).trans RS.out)
  clear hE2 hb2
  clear s12 s15 s16
  obtain ⟨v, hr, ho⟩ := HE2.out
  have HR := Lib.hid hr
  have HO := Lib.hid ho
  have RQ := RQ2
  have HB := HB2
  clear hr ho
  go_wp2_with fail
  have HI := Lib.hid (link_info2 (clK k now))
  refine wp_region_held_drew (S := fun w' => w'.heap[b]? = some (.cells (endCells (clK k now) now v) 72)) (by kernel_rfl) HR.out (fun hHeld => ?_)
  refine wpAnyH_take (i := 0) (v := .pointer (some ⟨b, 0, none⟩)) rfl (by kernel_rfl) (by kernel_rfl) (by kernel_rfl) (fun _ _ _ h => h) (Or.inl ⟨by rfl, by intro w hSw; clear hHeld; go_simp⟩) (by assumption) ?_
  simp only [Act.put, List.setIfInBounds_toArray, List.set_cons_zero, List.set_cons_succ, List.getElem_toArray, List.getElem_cons_succ, List.getElem_cons_zero]
  refine wpAnyH_take (i := 1) (v := .pointer (some ⟨b, 0, none⟩)) rfl (by kernel_rfl) (by kernel_rfl) (by kernel_rfl) (fun _ _ _ h => h) (Or.inl ⟨by rfl, by intro w hSw; clear hHeld; go_simp⟩) (by assumption) ?_
  simp only [Act.put, List.setIfInBounds_toArray, List.set_cons_zero, List.set_cons_succ, List.getElem_toArray, List.getElem_cons_succ, List.getElem_cons_zero]
  refine wpAnyH_take (i := 2) (v := .pointer (some ⟨b, 0, none⟩)) rfl (by kernel_rfl) (by kernel_rfl) (by kernel_rfl) (fun _ _ _ h => h) (Or.inl ⟨by rfl, by intro w hSw; clear hHeld; go_simp⟩) (by assumption) ?_
  simp only [Act.put, List.setIfInBounds_toArray, List.set_cons_zero, List.set_cons_succ, List.getElem_toArray, List.getElem_cons_succ, List.getElem_cons_zero]
  refine wpAnyH_take (i := 3) (v := .agg ((clK k now)).cells) rfl (by kernel_rfl) (by kernel_rfl) (by kernel_rfl) (fun _ _ _ h => h) (yields_row (by rfl) 27 _ rfl b (by rfl) ((clK k now)).cells _ (fun w' h' => range_end h') Try.underlying27 rfl HI.out) (by assumption) ?_
  simp only [Act.put, List.setIfInBounds_toArray, List.set_cons_zero, List.set_cons_succ, List.getElem_toArray, List.getElem_cons_succ, List.getElem_cons_zero]
  refine wpAnyH_take (i := 4) (v := .pointer (some ⟨b, 0, none⟩)) rfl (by kernel_rfl) (by kernel_rfl) (by kernel_rfl) (fun _ _ _ h => h) (Or.inl ⟨by rfl, by intro w hSw; clear hHeld; go_simp⟩) (by assumption) ?_
  simp only [Act.put, List.setIfInBounds_toArray, List.set_cons_zero, List.set_cons_succ, List.getElem_toArray, List.getElem_cons_succ, List.getElem_cons_zero]
  refine wpAnyH_take (i := 5) (v := .pointer (some ⟨b, 0, none⟩)) rfl (by kernel_rfl) (by kernel_rfl) (by kernel_rfl) (fun _ _ _ h => h) (Or.inl ⟨by rfl, by intro w hSw; clear hHeld; go_simp⟩) (by assumption) ?_
  simp only [Act.put, List.setIfInBounds_toArray, List.set_cons_zero, List.set_cons_succ, List.getElem_toArray, List.getElem_cons_succ, List.getElem_cons_zero]
  refine wpAnyH_take (i := 6) (v := .pointer (some ⟨b, 18, none⟩)) rfl (by kernel_rfl) (by kernel_rfl) (by kernel_rfl) (fun _ _ _ h => h) (Or.inl ⟨by rfl, by intro w hSw; clear hHeld; go_simp⟩) (by assumption) ?_
  simp only [Act.put, List.setIfInBounds_toArray, List.set_cons_zero, List.set_cons_succ, List.getElem_toArray, List.getElem_cons_succ, List.getElem_cons_zero]
  refine wpAnyH_take (i := 7) (v := v) rfl (by kernel_rfl) (by kernel_rfl) (by kernel_rfl) (fun _ _ _ h => h) (Or.inl ⟨by rfl, by intro w hSw; clear hHeld; have c18 : w.cell? ⟨b, 18, none⟩ = some v := (cell_of_row _ _ _ _ _ _ hSw).trans rfl; clear hSw; go_simp⟩) (by assumption) ?_
  simp only [Act.put, List.setIfInBounds_toArray, List.set_cons_zero, List.set_cons_succ, List.getElem_toArray, List.getElem_cons_succ, List.getElem_cons_zero]
  refine wpAnyH_ready (rs := [8]) (by kernel_rfl) (by simp) ?_
  refine AllReadyH.cons (i := 8) (rs := []) rfl ?_ AllReadyH.nil
  intro Kq hKq
  simp only [List.getElem_toArray, List.getElem_cons_succ, List.getElem_cons_zero]
  rw [if_pos (by rfl)]
  refine wp_store_row 27 (.tmp 4) (.tmp 36) (by rfl) (w.heap.size + 1) ((clK k now)).cells (by as_aux_lemma => kernel_rfl) (by as_aux_lemma => kernel_rfl) 27 #[.int .u8 0, .int .u8 0, .int .u8 0, .int .u8 0, .int .u8 0, .int .u8 0, .int .u8 0, .int .u8 0, .int .u8 0, .int .u8 0, .int .u8 0, .int .u8 0, .int .u8 0, .int .i64 0, .int .i64 0, .int .i64 0, .int .i64 0] RQ.out HI.out (by as_aux_lemma => kernel_rfl) (one_cells _) ?_
  refine hKq.out _ _ ((setRow_other _ _ _ _ (by omega)).trans HR.out) (fun hHeld2 => ?_)
  clear hKq Kq hHeld
  have hHeld := hHeld2
  clear hHeld2
  refine wpAnyH_take (i := 9) (v := v) rfl (by kernel_rfl) (by kernel_rfl) (by kernel_rfl) (fun _ _ _ h => h) (Or.inl ⟨by rfl, by intro w hSw; clear hHeld; go_simp⟩) (by assumption) ?_
  simp only [Act.put, List.setIfInBounds_toArray, List.set_cons_zero, List.set_cons_succ, List.getElem_toArray, List.getElem_cons_succ, List.getElem_cons_zero]
  refine wpAnyH_take (i := 10) (v := .int .i64 0) rfl (by kernel_rfl) (by kernel_rfl) (by kernel_rfl) (fun _ _ _ h => h) (Or.inl ⟨by rfl, by intro w hSw; clear hHeld; go_simp⟩) (by assumption) ?_
  simp only [Act.put, List.setIfInBounds_toArray, List.set_cons_zero, List.set_cons_succ, List.getElem_toArray, List.getElem_cons_succ, List.getElem_cons_zero]
  clear hHeld
  refine wpAnyH_done (by kernel_rfl) ?_ _
  go_wp2
  refine bodyPost_ret (results_row3 rfl _ _ (w.heap.size + 1) 27 ((clK k now)).cells (0, 0) _ rfl (setRow_heap _ _ _ _ _ _ (row_drew RQ.out)) Try.underlying27 rfl HI.out) rfl ?_
  exact ⟨v, rfl, (HO.out.drew.setRow _ (by omega) _).mono (by omega), below_setRow' HB.out.drew (by omega) _⟩
set_option maxHeartbeats 4000000 in
set_option maxRecDepth 100000 in
theorem tick_idle (k : Lk) (hB : k.By) (now : Int) (h : k.chk = 0) (ht : btw now 0 1099511627776 = true) (hn0 : 0 ≤ now) (hn1 : now ≤ 1099511627776) (hI : k.In) (hs : k.du = 0) (w : World) : Calls Try.prog 21 #[.agg k.cells, .int .i64 now] w (Ret3 w k [] 0) := by
  obtain ⟨rs, rq⟩ := fr_rows2 w (.cells k.cells 27) (.cells #[.int .u8 0, .int .u8 0, .int .u8 0, .int .u8 0, .int .u8 0, .int .u8 0, .int .u8 0, .int .u8 0, .int .u8 0, .int .u8 0, .int .u8 0, .int .u8 0, .int .u8 0, .int .i64 0, .int .i64 0, .int .i64 0, .int .i64 0] 27)
  have R0 := Lib.hid rs
  have Q0 := Lib.hid rq
  have HIK := Lib.hid (link_info2 k)
  have HIZ := Lib.hid link_infoZ
  clear rs rq
  go_enter Try.func21, Try.ntmps21
  go_wp2_with (with_reducible refine wpList_load_row rfl 27 (.tmp 2) rfl w.heap.size rfl 27 k.cells (0, 0) _ R0.out Try.underlying27 rfl HIK.out ?_)
  refine (begun_ok k hB now h ht _).mono ?_
  rintro e w1 ⟨b, rfl, hE, hb, hB1⟩
  have HE := Lib.hid hE
  have hbz : w.heap.size + 1 + 1 ≤ b := by simpa only [World.size_alloc] using hb
  have RS := Lib.hid (row_below hB1 R0.out)
  have RQ1 := Lib.hid (row_below hB1 Q0.out)
  have HB1 := Lib.hid ((((Below.refl w.heap.size w).alloc (Nat.le_refl _) _).alloc (by simp only [World.size_alloc]; omega) _).trans (hB1.mono (by simp only [World.size_alloc]; omega)))
  clear hE hB1 R0 Q0 hb
  have s12 : w1.cell? ⟨w.heap.size, 12, none⟩ = some (.int .u8 k.st) := (cell_of_row _ _ _ _ _ _ RS.out).trans (lk_st k)
  have s15 : w1.cell? ⟨w.heap.size, 15, none⟩ = some (.int .i64 k.tr) := (cell_of_row _ _ _ _ _ _ RS.out).trans (lk_tr k)
  have s16 : w1.cell? ⟨w.heap.size, 16, none⟩ = some (.int .i64 k.du) := (cell_of_row _ _ _ _ _ _ RS.out).trans (lk_du k)
  have HE1 := HE
  have RS1 := RS
  obtain ⟨v, hr, ho⟩ := HE1.out
  have HR := Lib.hid hr
  have HO := Lib.hid ho
  have RQ := RQ1
  have HB := HB1
  clear hr ho
  go_wp2_with fail
  have HI := Lib.hid (link_info2 k)
  refine wp_region_held_drew (S := fun w' => w'.heap[b]? = some (.cells (endCells k now v) 72)) (by kernel_rfl) HR.out (fun hHeld => ?_)
  refine wpAnyH_take (i := 0) (v := .pointer (some ⟨b, 0, none⟩)) rfl (by kernel_rfl) (by kernel_rfl) (by kernel_rfl) (fun _ _ _ h => h) (Or.inl ⟨by rfl, by intro w hSw; clear hHeld; go_simp⟩) (by assumption) ?_
  simp only [Act.put, List.setIfInBounds_toArray, List.set_cons_zero, List.set_cons_succ, List.getElem_toArray, List.getElem_cons_succ, List.getElem_cons_zero]
  refine wpAnyH_take (i := 1) (v := .pointer (some ⟨b, 0, none⟩)) rfl (by kernel_rfl) (by kernel_rfl) (by kernel_rfl) (fun _ _ _ h => h) (Or.inl ⟨by rfl, by intro w hSw; clear hHeld; go_simp⟩) (by assumption) ?_
  simp only [Act.put, List.setIfInBounds_toArray, List.set_cons_zero, List.set_cons_succ, List.getElem_toArray, List.getElem_cons_succ, List.getElem_cons_zero]
  refine wpAnyH_take (i := 2) (v := .pointer (some ⟨b, 0, none⟩)) rfl (by kernel_rfl) (by kernel_rfl) (by kernel_rfl) (fun _ _ _ h => h) (Or.inl ⟨by rfl, by intro w hSw; clear hHeld; go_simp⟩) (by assumption) ?_
  simp only [Act.put, List.setIfInBounds_toArray, List.set_cons_zero, List.set_cons_succ, List.getElem_toArray, List.getElem_cons_succ, List.getElem_cons_zero]
  refine wpAnyH_take (i := 3) (v := .agg (k).cells) rfl (by kernel_rfl) (by kernel_rfl) (by kernel_rfl) (fun _ _ _ h => h) (yields_row (by rfl) 27 _ rfl b (by rfl) (k).cells _ (fun w' h' => range_end h') Try.underlying27 rfl HI.out) (by assumption) ?_
  simp only [Act.put, List.setIfInBounds_toArray, List.set_cons_zero, List.set_cons_succ, List.getElem_toArray, List.getElem_cons_succ, List.getElem_cons_zero]
  refine wpAnyH_take (i := 4) (v := .pointer (some ⟨b, 0, none⟩)) rfl (by kernel_rfl) (by kernel_rfl) (by kernel_rfl) (fun _ _ _ h => h) (Or.inl ⟨by rfl, by intro w hSw; clear hHeld; go_simp⟩) (by assumption) ?_
  simp only [Act.put, List.setIfInBounds_toArray, List.set_cons_zero, List.set_cons_succ, List.getElem_toArray, List.getElem_cons_succ, List.getElem_cons_zero]
  refine wpAnyH_take (i := 5) (v := .pointer (some ⟨b, 0, none⟩)) rfl (by kernel_rfl) (by kernel_rfl) (by kernel_rfl) (fun _ _ _ h => h) (Or.inl ⟨by rfl, by intro w hSw; clear hHeld; go_simp⟩) (by assumption) ?_
  simp only [Act.put, List.setIfInBounds_toArray, List.set_cons_zero, List.set_cons_succ, List.getElem_toArray, List.getElem_cons_succ, List.getElem_cons_zero]
  refine wpAnyH_take (i := 6) (v := .pointer (some ⟨b, 18, none⟩)) rfl (by kernel_rfl) (by kernel_rfl) (by kernel_rfl) (fun _ _ _ h => h) (Or.inl ⟨by rfl, by intro w hSw; clear hHeld; go_simp⟩) (by assumption) ?_
  simp only [Act.put, List.setIfInBounds_toArray, List.set_cons_zero, List.set_cons_succ, List.getElem_toArray, List.getElem_cons_succ, List.getElem_cons_zero]
  refine wpAnyH_take (i := 7) (v := v) rfl (by kernel_rfl) (by kernel_rfl) (by kernel_rfl) (fun _ _ _ h => h) (Or.inl ⟨by rfl, by intro w hSw; clear hHeld; have c18 : w.cell? ⟨b, 18, none⟩ = some v := (cell_of_row _ _ _ _ _ _ hSw).trans rfl; clear hSw; go_simp⟩) (by assumption) ?_
  simp only [Act.put, List.setIfInBounds_toArray, List.set_cons_zero, List.set_cons_succ, List.getElem_toArray, List.getElem_cons_succ, List.getElem_cons_zero]
  refine wpAnyH_ready (rs := [8]) (by kernel_rfl) (by simp) ?_
  refine AllReadyH.cons (i := 8) (rs := []) rfl ?_ AllReadyH.nil
  intro Kq hKq
  simp only [List.getElem_toArray, List.getElem_cons_succ, List.getElem_cons_zero]
  rw [if_pos (by rfl)]
  refine wp_store_row 27 (.tmp 4) (.tmp 62) (by rfl) (w.heap.size + 1) (k).cells (by as_aux_lemma => kernel_rfl) (by as_aux_lemma => kernel_rfl) 27 #[.int .u8 0, .int .u8 0, .int .u8 0, .int .u8 0, .int .u8 0, .int .u8 0, .int .u8 0, .int .u8 0, .int .u8 0, .int .u8 0, .int .u8 0, .int .u8 0, .int .u8 0, .int .i64 0, .int .i64 0, .int .i64 0, .int .i64 0] RQ.out HI.out (by as_aux_lemma => kernel_rfl) (one_cells _) ?_
  refine hKq.out _ _ ((setRow_other _ _ _ _ (by omega)).trans HR.out) (fun hHeld2 => ?_)
  clear hKq Kq hHeld
  have hHeld := hHeld2
  clear hHeld2
  refine wpAnyH_take (i := 9) (v := v) rfl (by kernel_rfl) (by kernel_rfl) (by kernel_rfl) (fun _ _ _ h => h) (Or.inl ⟨by rfl, by intro w hSw; clear hHeld; go_simp⟩) (by assumption) ?_
  simp only [Act.put, List.setIfInBounds_toArray, List.set_cons_zero, List.set_cons_succ, List.getElem_toArray, List.getElem_cons_succ, List.getElem_cons_zero]
  refine wpAnyH_take (i := 10) (v := .int .i64 0) rfl (by kernel_rfl) (by kernel_rfl) (by kernel_rfl) (fun _ _ _ h => h) (Or.inl ⟨by rfl, by intro w hSw; clear hHeld; go_simp⟩) (by assumption) ?_
  simp only [Act.put, List.setIfInBounds_toArray, List.set_cons_zero, List.set_cons_succ, List.getElem_toArray, List.getElem_cons_succ, List.getElem_cons_zero]
  clear hHeld
  refine wpAnyH_done (by kernel_rfl) ?_ _
  go_wp2
  refine bodyPost_ret (results_row3 rfl _ _ (w.heap.size + 1) 27 (k).cells (0, 0) _ rfl (setRow_heap _ _ _ _ _ _ (row_drew RQ.out)) Try.underlying27 rfl HI.out) rfl ?_
  exact ⟨v, rfl, (HO.out.drew.setRow _ (by omega) _).mono (by omega), below_setRow' HB.out.drew (by omega) _⟩
set_option maxHeartbeats 4000000 in
set_option maxRecDepth 100000 in
theorem tick_early (k : Lk) (hB : k.By) (now : Int) (h : k.chk = 0) (ht : btw now 0 1099511627776 = true) (hn0 : 0 ≤ now) (hn1 : now ≤ 1099511627776) (hI : k.In) (hs : (k.du == 0) = false) (hd : now < k.du) (w : World) : Calls Try.prog 21 #[.agg k.cells, .int .i64 now] w (Ret3 w k [] 0) := by
  obtain ⟨rs, rq⟩ := fr_rows2 w (.cells k.cells 27) (.cells #[.int .u8 0, .int .u8 0, .int .u8 0, .int .u8 0, .int .u8 0, .int .u8 0, .int .u8 0, .int .u8 0, .int .u8 0, .int .u8 0, .int .u8 0, .int .u8 0, .int .u8 0, .int .i64 0, .int .i64 0, .int .i64 0, .int .i64 0] 27)
  have R0 := Lib.hid rs
  have Q0 := Lib.hid rq
  have HIK := Lib.hid (link_info2 k)
  have HIZ := Lib.hid link_infoZ
  clear rs rq
  go_enter Try.func21, Try.ntmps21
  go_wp2_with (with_reducible refine wpList_load_row rfl 27 (.tmp 2) rfl w.heap.size rfl 27 k.cells (0, 0) _ R0.out Try.underlying27 rfl HIK.out ?_)
  refine (begun_ok k hB now h ht _).mono ?_
  rintro e w1 ⟨b, rfl, hE, hb, hB1⟩
  have HE := Lib.hid hE
  have hbz : w.heap.size + 1 + 1 ≤ b := by simpa only [World.size_alloc] using hb
  have RS := Lib.hid (row_below hB1 R0.out)
  have RQ1 := Lib.hid (row_below hB1 Q0.out)
  have HB1 := Lib.hid ((((Below.refl w.heap.size w).alloc (Nat.le_refl _) _).alloc (by simp only [World.size_alloc]; omega) _).trans (hB1.mono (by simp only [World.size_alloc]; omega)))
  clear hE hB1 R0 Q0 hb
  have s12 : w1.cell? ⟨w.heap.size, 12, none⟩ = some (.int .u8 k.st) := (cell_of_row _ _ _ _ _ _ RS.out).trans (lk_st k)
  have s15 : w1.cell? ⟨w.heap.size, 15, none⟩ = some (.int .i64 k.tr) := (cell_of_row _ _ _ _ _ _ RS.out).trans (lk_tr k)
  have s16 : w1.cell? ⟨w.heap.size, 16, none⟩ = some (.int .i64 k.du) := (cell_of_row _ _ _ _ _ _ RS.out).trans (lk_du k)
  have HE1 := HE
  have RS1 := RS
  obtain ⟨v, hr, ho⟩ := HE1.out
  have HR := Lib.hid hr
  have HO := Lib.hid ho
  have RQ := RQ1
  have HB := HB1
  clear hr ho
  go_wp2_with fail
  have HI := Lib.hid (link_info2 k)
  refine wp_region_held_drew (S := fun w' => w'.heap[b]? = some (.cells (endCells k now v) 72)) (by kernel_rfl) HR.out (fun hHeld => ?_)
  refine wpAnyH_take (i := 0) (v := .pointer (some ⟨b, 0, none⟩)) rfl (by kernel_rfl) (by kernel_rfl) (by kernel_rfl) (fun _ _ _ h => h) (Or.inl ⟨by rfl, by intro w hSw; clear hHeld; go_simp⟩) (by assumption) ?_
  simp only [Act.put, List.setIfInBounds_toArray, List.set_cons_zero, List.set_cons_succ, List.getElem_toArray, List.getElem_cons_succ, List.getElem_cons_zero]
  refine wpAnyH_take (i := 1) (v := .pointer (some ⟨b, 0, none⟩)) rfl (by kernel_rfl) (by kernel_rfl) (by kernel_rfl) (fun _ _ _ h => h) (Or.inl ⟨by rfl, by intro w hSw; clear hHeld; go_simp⟩) (by assumption) ?_
  simp only [Act.put, List.setIfInBounds_toArray, List.set_cons_zero, List.set_cons_succ, List.getElem_toArray, List.getElem_cons_succ, List.getElem_cons_zero]
  refine wpAnyH_take (i := 2) (v := .pointer (some ⟨b, 0, none⟩)) rfl (by kernel_rfl) (by kernel_rfl) (by kernel_rfl) (fun _ _ _ h => h) (Or.inl ⟨by rfl, by intro w hSw; clear hHeld; go_simp⟩) (by assumption) ?_
  simp only [Act.put, List.setIfInBounds_toArray, List.set_cons_zero, List.set_cons_succ, List.getElem_toArray, List.getElem_cons_succ, List.getElem_cons_zero]
  refine wpAnyH_take (i := 3) (v := .agg (k).cells) rfl (by kernel_rfl) (by kernel_rfl) (by kernel_rfl) (fun _ _ _ h => h) (yields_row (by rfl) 27 _ rfl b (by rfl) (k).cells _ (fun w' h' => range_end h') Try.underlying27 rfl HI.out) (by assumption) ?_
  simp only [Act.put, List.setIfInBounds_toArray, List.set_cons_zero, List.set_cons_succ, List.getElem_toArray, List.getElem_cons_succ, List.getElem_cons_zero]
  refine wpAnyH_take (i := 4) (v := .pointer (some ⟨b, 0, none⟩)) rfl (by kernel_rfl) (by kernel_rfl) (by kernel_rfl) (fun _ _ _ h => h) (Or.inl ⟨by rfl, by intro w hSw; clear hHeld; go_simp⟩) (by assumption) ?_
  simp only [Act.put, List.setIfInBounds_toArray, List.set_cons_zero, List.set_cons_succ, List.getElem_toArray, List.getElem_cons_succ, List.getElem_cons_zero]
  refine wpAnyH_take (i := 5) (v := .pointer (some ⟨b, 0, none⟩)) rfl (by kernel_rfl) (by kernel_rfl) (by kernel_rfl) (fun _ _ _ h => h) (Or.inl ⟨by rfl, by intro w hSw; clear hHeld; go_simp⟩) (by assumption) ?_
  simp only [Act.put, List.setIfInBounds_toArray, List.set_cons_zero, List.set_cons_succ, List.getElem_toArray, List.getElem_cons_succ, List.getElem_cons_zero]
  refine wpAnyH_take (i := 6) (v := .pointer (some ⟨b, 18, none⟩)) rfl (by kernel_rfl) (by kernel_rfl) (by kernel_rfl) (fun _ _ _ h => h) (Or.inl ⟨by rfl, by intro w hSw; clear hHeld; go_simp⟩) (by assumption) ?_
  simp only [Act.put, List.setIfInBounds_toArray, List.set_cons_zero, List.set_cons_succ, List.getElem_toArray, List.getElem_cons_succ, List.getElem_cons_zero]
  refine wpAnyH_take (i := 7) (v := v) rfl (by kernel_rfl) (by kernel_rfl) (by kernel_rfl) (fun _ _ _ h => h) (Or.inl ⟨by rfl, by intro w hSw; clear hHeld; have c18 : w.cell? ⟨b, 18, none⟩ = some v := (cell_of_row _ _ _ _ _ _ hSw).trans rfl; clear hSw; go_simp⟩) (by assumption) ?_
  simp only [Act.put, List.setIfInBounds_toArray, List.set_cons_zero, List.set_cons_succ, List.getElem_toArray, List.getElem_cons_succ, List.getElem_cons_zero]
  refine wpAnyH_ready (rs := [8]) (by kernel_rfl) (by simp) ?_
  refine AllReadyH.cons (i := 8) (rs := []) rfl ?_ AllReadyH.nil
  intro Kq hKq
  simp only [List.getElem_toArray, List.getElem_cons_succ, List.getElem_cons_zero]
  rw [if_pos (by rfl)]
  refine wp_store_row 27 (.tmp 4) (.tmp 62) (by rfl) (w.heap.size + 1) (k).cells (by as_aux_lemma => kernel_rfl) (by as_aux_lemma => kernel_rfl) 27 #[.int .u8 0, .int .u8 0, .int .u8 0, .int .u8 0, .int .u8 0, .int .u8 0, .int .u8 0, .int .u8 0, .int .u8 0, .int .u8 0, .int .u8 0, .int .u8 0, .int .u8 0, .int .i64 0, .int .i64 0, .int .i64 0, .int .i64 0] RQ.out HI.out (by as_aux_lemma => kernel_rfl) (one_cells _) ?_
  refine hKq.out _ _ ((setRow_other _ _ _ _ (by omega)).trans HR.out) (fun hHeld2 => ?_)
  clear hKq Kq hHeld
  have hHeld := hHeld2
  clear hHeld2
  refine wpAnyH_take (i := 9) (v := v) rfl (by kernel_rfl) (by kernel_rfl) (by kernel_rfl) (fun _ _ _ h => h) (Or.inl ⟨by rfl, by intro w hSw; clear hHeld; go_simp⟩) (by assumption) ?_
  simp only [Act.put, List.setIfInBounds_toArray, List.set_cons_zero, List.set_cons_succ, List.getElem_toArray, List.getElem_cons_succ, List.getElem_cons_zero]
  refine wpAnyH_take (i := 10) (v := .int .i64 0) rfl (by kernel_rfl) (by kernel_rfl) (by kernel_rfl) (fun _ _ _ h => h) (Or.inl ⟨by rfl, by intro w hSw; clear hHeld; go_simp⟩) (by assumption) ?_
  simp only [Act.put, List.setIfInBounds_toArray, List.set_cons_zero, List.set_cons_succ, List.getElem_toArray, List.getElem_cons_succ, List.getElem_cons_zero]
  clear hHeld
  refine wpAnyH_done (by kernel_rfl) ?_ _
  go_wp2
  refine bodyPost_ret (results_row3 rfl _ _ (w.heap.size + 1) 27 (k).cells (0, 0) _ rfl (setRow_heap _ _ _ _ _ _ (row_drew RQ.out)) Try.underlying27 rfl HI.out) rfl ?_
  exact ⟨v, rfl, (HO.out.drew.setRow _ (by omega) _).mono (by omega), below_setRow' HB.out.drew (by omega) _⟩
set_option maxHeartbeats 4000000 in
set_option maxRecDepth 100000 in
theorem tick_hold (k : Lk) (hB : k.By) (now : Int) (h : k.chk = 0) (ht : btw now 0 1099511627776 = true) (hn0 : 0 ≤ now) (hn1 : now ≤ 1099511627776) (hI : k.In) (hs : (k.du == 0) = false) (hd : k.du ≤ now) (h5 : k.st = 5) (w : World) : Calls Try.prog 21 #[.agg k.cells, .int .i64 now] w (Ret3 w (finK k) [] 0) := by
  obtain ⟨hid0, hid1, hot0, hot1⟩ := hI
  obtain ⟨rs, rq⟩ := fr_rows2 w (.cells k.cells 27) (.cells #[.int .u8 0, .int .u8 0, .int .u8 0, .int .u8 0, .int .u8 0, .int .u8 0, .int .u8 0, .int .u8 0, .int .u8 0, .int .u8 0, .int .u8 0, .int .u8 0, .int .u8 0, .int .i64 0, .int .i64 0, .int .i64 0, .int .i64 0] 27)
  have R0 := Lib.hid rs
  have Q0 := Lib.hid rq
  have HIK := Lib.hid (link_info2 k)
  have HIZ := Lib.hid link_infoZ
  clear rs rq
  go_enter Try.func21, Try.ntmps21
  go_wp2_with (with_reducible refine wpList_load_row rfl 27 (.tmp 2) rfl w.heap.size rfl 27 k.cells (0, 0) _ R0.out Try.underlying27 rfl HIK.out ?_)
  refine (begun_ok k hB now h ht _).mono ?_
  rintro e w1 ⟨b, rfl, hE, hb, hB1⟩
  have HE := Lib.hid hE
  have hbz : w.heap.size + 1 + 1 ≤ b := by simpa only [World.size_alloc] using hb
  have RS := Lib.hid (row_below hB1 R0.out)
  have RQ1 := Lib.hid (row_below hB1 Q0.out)
  have HB1 := Lib.hid ((((Below.refl w.heap.size w).alloc (Nat.le_refl _) _).alloc (by simp only [World.size_alloc]; omega) _).trans (hB1.mono (by simp only [World.size_alloc]; omega)))
  clear hE hB1 R0 Q0 hb
  have s12 : w1.cell? ⟨w.heap.size, 12, none⟩ = some (.int .u8 k.st) := (cell_of_row _ _ _ _ _ _ RS.out).trans (lk_st k)
  have s15 : w1.cell? ⟨w.heap.size, 15, none⟩ = some (.int .i64 k.tr) := (cell_of_row _ _ _ _ _ _ RS.out).trans (lk_tr k)
  have s16 : w1.cell? ⟨w.heap.size, 16, none⟩ = some (.int .i64 k.du) := (cell_of_row _ _ _ _ _ _ RS.out).trans (lk_du k)
  go_wp2_with fail
  refine (finish_end b k now [] (by omega) hid1 _ HE.out).mono ?_
  rintro e w2 ⟨rfl, hE2, hb2⟩
  have HE2 := Lib.hid hE2
  have RQ2 := Lib.hid (show w2.heap[w.heap.size + 1]? = some (.cells #[.int .u8 0, .int .u8 0, .int .u8 0, .int .u8 0, .int .u8 0, .int .u8 0, .int .u8 0, .int .u8 0, .int .u8 0, .int .u8 0, .int .u8 0, .int .u8 0, .int .u8 0, .int .i64 0, .int .i64 0, .int .i64 0, .int .i64 0] 27) from (hb2.block _ (by omega)).trans RQ1.out)
  have HB2 := Lib.hid (HB1.out.trans (hb2.mono (by omega)))
  have RS2 := Lib.hid (show w2.heap[w.heap.size]? = some (.cells k.cells 27) from (hb2.block _ (by omega)).trans RS.out)
  clear hE2 hb2
  clear s12 s15 s16
  obtain ⟨v, hr, ho⟩ := HE2.out
  have HR := Lib.hid hr
  have HO := Lib.hid ho
  have RQ := RQ2
  have HB := HB2
  clear hr ho
  go_wp2_with fail
  have HI := Lib.hid (link_info2 (finK k))
  refine wp_region_held_drew (S := fun w' => w'.heap[b]? = some (.cells (endCells (finK k) now v) 72)) (by kernel_rfl) HR.out (fun hHeld => ?_)
  refine wpAnyH_take (i := 0) (v := .pointer (some ⟨b, 0, none⟩)) rfl (by kernel_rfl) (by kernel_rfl) (by kernel_rfl) (fun _ _ _ h => h) (Or.inl ⟨by rfl, by intro w hSw; clear hHeld; go_simp⟩) (by assumption) ?_
  simp only [Act.put, List.setIfInBounds_toArray, List.set_cons_zero, List.set_cons_succ, List.getElem_toArray, List.getElem_cons_succ, List.getElem_cons_zero]
  refine wpAnyH_take (i := 1) (v := .pointer (some ⟨b, 0, none⟩)) rfl (by kernel_rfl) (by kernel_rfl) (by kernel_rfl) (fun _ _ _ h => h) (Or.inl ⟨by rfl, by intro w hSw; clear hHeld; go_simp⟩) (by assumption) ?_
  simp only [Act.put, List.setIfInBounds_toArray, List.set_cons_zero, List.set_cons_succ, List.getElem_toArray, List.getElem_cons_succ, List.getElem_cons_zero]
  refine wpAnyH_take (i := 2) (v := .pointer (some ⟨b, 0, none⟩)) rfl (by kernel_rfl) (by kernel_rfl) (by kernel_rfl) (fun _ _ _ h => h) (Or.inl ⟨by rfl, by intro w hSw; clear hHeld; go_simp⟩) (by assumption) ?_
  simp only [Act.put, List.setIfInBounds_toArray, List.set_cons_zero, List.set_cons_succ, List.getElem_toArray, List.getElem_cons_succ, List.getElem_cons_zero]
  refine wpAnyH_take (i := 3) (v := .agg ((finK k)).cells) rfl (by kernel_rfl) (by kernel_rfl) (by kernel_rfl) (fun _ _ _ h => h) (yields_row (by rfl) 27 _ rfl b (by rfl) ((finK k)).cells _ (fun w' h' => range_end h') Try.underlying27 rfl HI.out) (by assumption) ?_
  simp only [Act.put, List.setIfInBounds_toArray, List.set_cons_zero, List.set_cons_succ, List.getElem_toArray, List.getElem_cons_succ, List.getElem_cons_zero]
  refine wpAnyH_take (i := 4) (v := .pointer (some ⟨b, 0, none⟩)) rfl (by kernel_rfl) (by kernel_rfl) (by kernel_rfl) (fun _ _ _ h => h) (Or.inl ⟨by rfl, by intro w hSw; clear hHeld; go_simp⟩) (by assumption) ?_
  simp only [Act.put, List.setIfInBounds_toArray, List.set_cons_zero, List.set_cons_succ, List.getElem_toArray, List.getElem_cons_succ, List.getElem_cons_zero]
  refine wpAnyH_take (i := 5) (v := .pointer (some ⟨b, 0, none⟩)) rfl (by kernel_rfl) (by kernel_rfl) (by kernel_rfl) (fun _ _ _ h => h) (Or.inl ⟨by rfl, by intro w hSw; clear hHeld; go_simp⟩) (by assumption) ?_
  simp only [Act.put, List.setIfInBounds_toArray, List.set_cons_zero, List.set_cons_succ, List.getElem_toArray, List.getElem_cons_succ, List.getElem_cons_zero]
  refine wpAnyH_take (i := 6) (v := .pointer (some ⟨b, 18, none⟩)) rfl (by kernel_rfl) (by kernel_rfl) (by kernel_rfl) (fun _ _ _ h => h) (Or.inl ⟨by rfl, by intro w hSw; clear hHeld; go_simp⟩) (by assumption) ?_
  simp only [Act.put, List.setIfInBounds_toArray, List.set_cons_zero, List.set_cons_succ, List.getElem_toArray, List.getElem_cons_succ, List.getElem_cons_zero]
  refine wpAnyH_take (i := 7) (v := v) rfl (by kernel_rfl) (by kernel_rfl) (by kernel_rfl) (fun _ _ _ h => h) (Or.inl ⟨by rfl, by intro w hSw; clear hHeld; have c18 : w.cell? ⟨b, 18, none⟩ = some v := (cell_of_row _ _ _ _ _ _ hSw).trans rfl; clear hSw; go_simp⟩) (by assumption) ?_
  simp only [Act.put, List.setIfInBounds_toArray, List.set_cons_zero, List.set_cons_succ, List.getElem_toArray, List.getElem_cons_succ, List.getElem_cons_zero]
  refine wpAnyH_ready (rs := [8]) (by kernel_rfl) (by simp) ?_
  refine AllReadyH.cons (i := 8) (rs := []) rfl ?_ AllReadyH.nil
  intro Kq hKq
  simp only [List.getElem_toArray, List.getElem_cons_succ, List.getElem_cons_zero]
  rw [if_pos (by rfl)]
  refine wp_store_row 27 (.tmp 4) (.tmp 62) (by rfl) (w.heap.size + 1) ((finK k)).cells (by as_aux_lemma => kernel_rfl) (by as_aux_lemma => kernel_rfl) 27 #[.int .u8 0, .int .u8 0, .int .u8 0, .int .u8 0, .int .u8 0, .int .u8 0, .int .u8 0, .int .u8 0, .int .u8 0, .int .u8 0, .int .u8 0, .int .u8 0, .int .u8 0, .int .i64 0, .int .i64 0, .int .i64 0, .int .i64 0] RQ.out HI.out (by as_aux_lemma => kernel_rfl) (one_cells _) ?_
  refine hKq.out _ _ ((setRow_other _ _ _ _ (by omega)).trans HR.out) (fun hHeld2 => ?_)
  clear hKq Kq hHeld
  have hHeld := hHeld2
  clear hHeld2
  refine wpAnyH_take (i := 9) (v := v) rfl (by kernel_rfl) (by kernel_rfl) (by kernel_rfl) (fun _ _ _ h => h) (Or.inl ⟨by rfl, by intro w hSw; clear hHeld; go_simp⟩) (by assumption) ?_
  simp only [Act.put, List.setIfInBounds_toArray, List.set_cons_zero, List.set_cons_succ, List.getElem_toArray, List.getElem_cons_succ, List.getElem_cons_zero]
  refine wpAnyH_take (i := 10) (v := .int .i64 0) rfl (by kernel_rfl) (by kernel_rfl) (by kernel_rfl) (fun _ _ _ h => h) (Or.inl ⟨by rfl, by intro w hSw; clear hHeld; go_simp⟩) (by assumption) ?_
  simp only [Act.put, List.setIfInBounds_toArray, List.set_cons_zero, List.set_cons_succ, List.getElem_toArray, List.getElem_cons_succ, List.getElem_cons_zero]
  clear hHeld
  refine wpAnyH_done (by kernel_rfl) ?_ _
  go_wp2
  refine bodyPost_ret (results_row3 rfl _ _ (w.heap.size + 1) 27 ((finK k)).cells (0, 0) _ rfl (setRow_heap _ _ _ _ _ _ (row_drew RQ.out)) Try.underlying27 rfl HI.out) rfl ?_
  exact ⟨v, rfl, (HO.out.drew.setRow _ (by omega) _).mono (by omega), below_setRow' HB.out.drew (by omega) _⟩
set_option maxHeartbeats 4000000 in
set_option maxRecDepth 100000 in
theorem tick_close (k : Lk) (hB : k.By) (now : Int) (h : k.chk = 0) (ht : btw now 0 1099511627776 = true) (hn0 : 0 ≤ now) (hn1 : now ≤ 1099511627776) (hI : k.In) (hs : (k.du == 0) = false) (hd : k.du ≤ now) (h5 : (k.st == 5) = false) (h3 : k.tr = 3) (w : World) : Calls Try.prog 21 #[.agg k.cells, .int .i64 now] w (Ret3 w (clK k now) [msgOf 3 k.id k.ot] 0) := by
  obtain ⟨hid0, hid1, hot0, hot1⟩ := hI
  obtain ⟨rs, rq⟩ := fr_rows2 w (.cells k.cells 27) (.cells #[.int .u8 0, .int .u8 0, .int .u8 0, .int .u8 0, .int .u8 0, .int .u8 0, .int .u8 0, .int .u8 0, .int .u8 0, .int .u8 0, .int .u8 0, .int .u8 0, .int .u8 0, .int .i64 0, .int .i64 0, .int .i64 0, .int .i64 0] 27)
  have R0 := Lib.hid rs
  have Q0 := Lib.hid rq
  have HIK := Lib.hid (link_info2 k)
  have HIZ := Lib.hid link_infoZ
  clear rs rq
  go_enter Try.func21, Try.ntmps21
  go_wp2_with (with_reducible refine wpList_load_row rfl 27 (.tmp 2) rfl w.heap.size rfl 27 k.cells (0, 0) _ R0.out Try.underlying27 rfl HIK.out ?_)
  refine (begun_ok k hB now h ht _).mono ?_
  rintro e w1 ⟨b, rfl, hE, hb, hB1⟩
  have HE := Lib.hid hE
  have hbz : w.heap.size + 1 + 1 ≤ b := by simpa only [World.size_alloc] using hb
  have RS := Lib.hid (row_below hB1 R0.out)
  have RQ1 := Lib.hid (row_below hB1 Q0.out)
  have HB1 := Lib.hid ((((Below.refl w.heap.size w).alloc (Nat.le_refl _) _).alloc (by simp only [World.size_alloc]; omega) _).trans (hB1.mono (by simp only [World.size_alloc]; omega)))
  clear hE hB1 R0 Q0 hb
  have s12 : w1.cell? ⟨w.heap.size, 12, none⟩ = some (.int .u8 k.st) := (cell_of_row _ _ _ _ _ _ RS.out).trans (lk_st k)
  have s15 : w1.cell? ⟨w.heap.size, 15, none⟩ = some (.int .i64 k.tr) := (cell_of_row _ _ _ _ _ _ RS.out).trans (lk_tr k)
  have s16 : w1.cell? ⟨w.heap.size, 16, none⟩ = some (.int .i64 k.du) := (cell_of_row _ _ _ _ _ _ RS.out).trans (lk_du k)
  go_wp2_with fail
  refine (close_end b k now [] (by decide) (by omega) hid1 hot0 hot1 hn0 hn1 _ HE.out).mono ?_
  rintro e w2 ⟨rfl, hE2, hb2⟩
  have HE2 := Lib.hid hE2
  have RQ2 := Lib.hid (show w2.heap[w.heap.size + 1]? = some (.cells #[.int .u8 0, .int .u8 0, .int .u8 0, .int .u8 0, .int .u8 0, .int .u8 0, .int .u8 0, .int .u8 0, .int .u8 0, .int .u8 0, .int .u8 0, .int .u8 0, .int .u8 0, .int .i64 0, .int .i64 0, .int .i64 0, .int .i64 0] 27) from (hb2.block _ (by omega)).trans RQ1.out)
  have HB2 := Lib.hid (HB1.out.trans (hb2.mono (by omega)))
  have RS2 := Lib.hid (show w2.heap[w.heap.size]? = some (.cells k.cells 27) from (hb2.block _ (by omega)).trans RS.out)
  clear hE2 hb2
  clear s12 s15 s16
  obtain ⟨v, hr, ho⟩ := HE2.out
  have HR := Lib.hid hr
  have HO := Lib.hid ho
  have RQ := RQ2
  have HB := HB2
  clear hr ho
  go_wp2_with fail
  have HI := Lib.hid (link_info2 (clK k now))
  refine wp_region_held_drew (S := fun w' => w'.heap[b]? = some (.cells (endCells (clK k now) now v) 72)) (by kernel_rfl) HR.out (fun hHeld => ?_)
  refine wpAnyH_take (i := 0) (v := .pointer (some ⟨b, 0, none⟩)) rfl (by kernel_rfl) (by kernel_rfl) (by kernel_rfl) (fun _ _ _ h => h) (Or.inl ⟨by rfl, by intro w hSw; clear hHeld; go_simp⟩) (by assumption) ?_
  simp only [Act.put, List.setIfInBounds_toArray, List.set_cons_zero, List.set_cons_succ, List.getElem_toArray, List.getElem_cons_succ, List.getElem_cons_zero]
  refine wpAnyH_take (i := 1) (v := .pointer (some ⟨b, 0, none⟩)) rfl (by kernel_rfl) (by kernel_rfl) (by kernel_rfl) (fun _ _ _ h => h) (Or.inl ⟨by rfl, by intro w hSw; clear hHeld; go_simp⟩) (by assumption) ?_
  simp only [Act.put, List.setIfInBounds_toArray, List.set_cons_zero, List.set_cons_succ, List.getElem_toArray, List.getElem_cons_succ, List.getElem_cons_zero]
  refine wpAnyH_take (i := 2) (v := .pointer (some ⟨b, 0, none⟩)) rfl (by kernel_rfl) (by kernel_rfl) (by kernel_rfl) (fun _ _ _ h => h) (Or.inl ⟨by rfl, by intro w hSw; clear hHeld; go_simp⟩) (by assumption) ?_
  simp only [Act.put, List.setIfInBounds_toArray, List.set_cons_zero, List.set_cons_succ, List.getElem_toArray, List.getElem_cons_succ, List.getElem_cons_zero]
  refine wpAnyH_take (i := 3) (v := .agg ((clK k now)).cells) rfl (by kernel_rfl) (by kernel_rfl) (by kernel_rfl) (fun _ _ _ h => h) (yields_row (by rfl) 27 _ rfl b (by rfl) ((clK k now)).cells _ (fun w' h' => range_end h') Try.underlying27 rfl HI.out) (by assumption) ?_
  simp only [Act.put, List.setIfInBounds_toArray, List.set_cons_zero, List.set_cons_succ, List.getElem_toArray, List.getElem_cons_succ, List.getElem_cons_zero]
  refine wpAnyH_take (i := 4) (v := .pointer (some ⟨b, 0, none⟩)) rfl (by kernel_rfl) (by kernel_rfl) (by kernel_rfl) (fun _ _ _ h => h) (Or.inl ⟨by rfl, by intro w hSw; clear hHeld; go_simp⟩) (by assumption) ?_
  simp only [Act.put, List.setIfInBounds_toArray, List.set_cons_zero, List.set_cons_succ, List.getElem_toArray, List.getElem_cons_succ, List.getElem_cons_zero]
  refine wpAnyH_take (i := 5) (v := .pointer (some ⟨b, 0, none⟩)) rfl (by kernel_rfl) (by kernel_rfl) (by kernel_rfl) (fun _ _ _ h => h) (Or.inl ⟨by rfl, by intro w hSw; clear hHeld; go_simp⟩) (by assumption) ?_
  simp only [Act.put, List.setIfInBounds_toArray, List.set_cons_zero, List.set_cons_succ, List.getElem_toArray, List.getElem_cons_succ, List.getElem_cons_zero]
  refine wpAnyH_take (i := 6) (v := .pointer (some ⟨b, 18, none⟩)) rfl (by kernel_rfl) (by kernel_rfl) (by kernel_rfl) (fun _ _ _ h => h) (Or.inl ⟨by rfl, by intro w hSw; clear hHeld; go_simp⟩) (by assumption) ?_
  simp only [Act.put, List.setIfInBounds_toArray, List.set_cons_zero, List.set_cons_succ, List.getElem_toArray, List.getElem_cons_succ, List.getElem_cons_zero]
  refine wpAnyH_take (i := 7) (v := v) rfl (by kernel_rfl) (by kernel_rfl) (by kernel_rfl) (fun _ _ _ h => h) (Or.inl ⟨by rfl, by intro w hSw; clear hHeld; have c18 : w.cell? ⟨b, 18, none⟩ = some v := (cell_of_row _ _ _ _ _ _ hSw).trans rfl; clear hSw; go_simp⟩) (by assumption) ?_
  simp only [Act.put, List.setIfInBounds_toArray, List.set_cons_zero, List.set_cons_succ, List.getElem_toArray, List.getElem_cons_succ, List.getElem_cons_zero]
  refine wpAnyH_ready (rs := [8]) (by kernel_rfl) (by simp) ?_
  refine AllReadyH.cons (i := 8) (rs := []) rfl ?_ AllReadyH.nil
  intro Kq hKq
  simp only [List.getElem_toArray, List.getElem_cons_succ, List.getElem_cons_zero]
  rw [if_pos (by rfl)]
  refine wp_store_row 27 (.tmp 4) (.tmp 62) (by rfl) (w.heap.size + 1) ((clK k now)).cells (by as_aux_lemma => kernel_rfl) (by as_aux_lemma => kernel_rfl) 27 #[.int .u8 0, .int .u8 0, .int .u8 0, .int .u8 0, .int .u8 0, .int .u8 0, .int .u8 0, .int .u8 0, .int .u8 0, .int .u8 0, .int .u8 0, .int .u8 0, .int .u8 0, .int .i64 0, .int .i64 0, .int .i64 0, .int .i64 0] RQ.out HI.out (by as_aux_lemma => kernel_rfl) (one_cells _) ?_
  refine hKq.out _ _ ((setRow_other _ _ _ _ (by omega)).trans HR.out) (fun hHeld2 => ?_)
  clear hKq Kq hHeld
  have hHeld := hHeld2
  clear hHeld2
  refine wpAnyH_take (i := 9) (v := v) rfl (by kernel_rfl) (by kernel_rfl) (by kernel_rfl) (fun _ _ _ h => h) (Or.inl ⟨by rfl, by intro w hSw; clear hHeld; go_simp⟩) (by assumption) ?_
  simp only [Act.put, List.setIfInBounds_toArray, List.set_cons_zero, List.set_cons_succ, List.getElem_toArray, List.getElem_cons_succ, List.getElem_cons_zero]
  refine wpAnyH_take (i := 10) (v := .int .i64 0) rfl (by kernel_rfl) (by kernel_rfl) (by kernel_rfl) (fun _ _ _ h => h) (Or.inl ⟨by rfl, by intro w hSw; clear hHeld; go_simp⟩) (by assumption) ?_
  simp only [Act.put, List.setIfInBounds_toArray, List.set_cons_zero, List.set_cons_succ, List.getElem_toArray, List.getElem_cons_succ, List.getElem_cons_zero]
  clear hHeld
  refine wpAnyH_done (by kernel_rfl) ?_ _
  go_wp2
  refine bodyPost_ret (results_row3 rfl _ _ (w.heap.size + 1) 27 ((clK k now)).cells (0, 0) _ rfl (setRow_heap _ _ _ _ _ _ (row_drew RQ.out)) Try.underlying27 rfl HI.out) rfl ?_
  exact ⟨v, rfl, (HO.out.drew.setRow _ (by omega) _).mono (by omega), below_setRow' HB.out.drew (by omega) _⟩
set_option maxHeartbeats 4000000 in
set_option maxRecDepth 100000 in
theorem tick_again (k : Lk) (hB : k.By) (now : Int) (h : k.chk = 0) (ht : btw now 0 1099511627776 = true) (hn0 : 0 ≤ now) (hn1 : now ≤ 1099511627776) (hI : k.In) (hs : (k.du == 0) = false) (hd : k.du ≤ now) (h5 : (k.st == 5) = false) (h3 : (k.st == 3) = false) (ht0 : 0 ≤ k.tr) (ht3 : k.tr < 3) (w : World) : Calls Try.prog 21 #[.agg k.cells, .int .i64 now] w (Ret3 w { k with tr := k.tr + 1, du := now + 40000 } [msgOf 1 k.id 0] 0) := by
  obtain ⟨hid0, hid1, hot0, hot1⟩ := hI
  have h3' : (k.st != 3) = true := by simp only [bne, h3]; rfl
  obtain ⟨rs, rq⟩ := fr_rows2 w (.cells k.cells 27) (.cells #[.int .u8 0, .int .u8 0, .int .u8 0, .int .u8 0, .int .u8 0, .int .u8 0, .int .u8 0, .int .u8 0, .int .u8 0, .int .u8 0, .int .u8 0, .int .u8 0, .int .u8 0, .int .i64 0, .int .i64 0, .int .i64 0, .int .i64 0] 27)
  have R0 := Lib.hid rs
  have Q0 := Lib.hid rq
  have HIK := Lib.hid (link_info2 k)
  have HIZ := Lib.hid link_infoZ
  clear rs rq
  go_enter Try.func21, Try.ntmps21
  go_wp2_with (with_reducible refine wpList_load_row rfl 27 (.tmp 2) rfl w.heap.size rfl 27 k.cells (0, 0) _ R0.out Try.underlying27 rfl HIK.out ?_)
  refine (begun_ok k hB now h ht _).mono ?_
  rintro e w1 ⟨b, rfl, hE, hb, hB1⟩
  have HE := Lib.hid hE
  have hbz : w.heap.size + 1 + 1 ≤ b := by simpa only [World.size_alloc] using hb
  have RS := Lib.hid (row_below hB1 R0.out)
  have RQ1 := Lib.hid (row_below hB1 Q0.out)
  have HB1 := Lib.hid ((((Below.refl w.heap.size w).alloc (Nat.le_refl _) _).alloc (by simp only [World.size_alloc]; omega) _).trans (hB1.mono (by simp only [World.size_alloc]; omega)))
  clear hE hB1 R0 Q0 hb
  have s12 : w1.cell? ⟨w.heap.size, 12, none⟩ = some (.int .u8 k.st) := (cell_of_row _ _ _ _ _ _ RS.out).trans (lk_st k)
  have s15 : w1.cell? ⟨w.heap.size, 15, none⟩ = some (.int .i64 k.tr) := (cell_of_row _ _ _ _ _ _ RS.out).trans (lk_tr k)
  have s16 : w1.cell? ⟨w.heap.size, 16, none⟩ = some (.int .i64 k.du) := (cell_of_row _ _ _ _ _ _ RS.out).trans (lk_du k)
  obtain ⟨v0, hr0, ho0⟩ := HE.out
  have c15 : w1.cell? ⟨b, 15, none⟩ = some (.int .i64 k.tr) := (cell_of_row _ _ _ _ _ _ hr0).trans rfl
  have c16 : w1.cell? ⟨b, 16, none⟩ = some (.int .i64 k.du) := (cell_of_row _ _ _ _ _ _ hr0).trans rfl
  have hf : ∀ o, w1.frozen? ⟨b, o, none⟩ = false := fun o => frozen_of_row _ _ _ _ _ hr0
  have hyb : b < w1.heap.size := row_lt hr0
  have hne : w.heap.size ≠ b := by omega
  clear hr0 ho0
  go_wp2_with fail
  refine (send_end b { k with tr := k.tr + 1, du := now + 40000 } now [] 1 0 (by decide) (by show 0 ≤ k.id; omega) hid1 (by decide) (by decide) _ (HE.out.setDue (k.tr + 1) (now + 40000))).mono ?_
  rintro e w2 ⟨rfl, hE2, hb2⟩
  have HE2 := Lib.hid hE2
  have RQ2 := Lib.hid (show w2.heap[w.heap.size + 1]? = some (.cells #[.int .u8 0, .int .u8 0, .int .u8 0, .int .u8 0, .int .u8 0, .int .u8 0, .int .u8 0, .int .u8 0, .int .u8 0, .int .u8 0, .int .u8 0, .int .u8 0, .int .u8 0, .int .i64 0, .int .i64 0, .int .i64 0, .int .i64 0] 27) from (hb2.block _ (by omega)).trans (show ((w1.setCell ⟨b, 15, none⟩ (.int .i64 (k.tr + 1))).setCell ⟨b, 16, none⟩ (.int .i64 (now + 40000))).heap[w.heap.size + 1]? = some (.cells #[.int .u8 0, .int .u8 0, .int .u8 0, .int .u8 0, .int .u8 0, .int .u8 0, .int .u8 0, .int .u8 0, .int .u8 0, .int .u8 0, .int .u8 0, .int .u8 0, .int .u8 0, .int .i64 0, .int .i64 0, .int .i64 0, .int .i64 0] 27) from row_set (by simp only []; omega) (row_set (by simp only []; omega) RQ1.out)))
  have HB2 := Lib.hid (((HB1.out.setCell (p := ⟨b, 15, none⟩) (by simp only []; omega) _).setCell (p := ⟨b, 16, none⟩) (by simp only []; omega) _).trans (hb2.mono (by omega)))
  have RS2 := Lib.hid (show w2.heap[w.heap.size]? = some (.cells k.cells 27) from (hb2.block _ (by omega)).trans (show ((w1.setCell ⟨b, 15, none⟩ (.int .i64 (k.tr + 1))).setCell ⟨b, 16, none⟩ (.int .i64 (now + 40000))).heap[w.heap.size]? = some (.cells k.cells 27) from row_set (by simp only []; omega) (row_set (by simp only []; omega) RS.out)))
  clear hE2 hb2
  clear s12 s15 s16 c15 c16 hf hyb
  obtain ⟨v, hr, ho⟩ := HE2.out
  have HR := Lib.hid hr
  have HO := Lib.hid ho
  have RQ := RQ2
  have HB := HB2
  clear hr ho
  go_wp2_with fail
  have HI := Lib.hid (link_info2 ({ k with tr := k.tr + 1, du := now + 40000 }))
  refine wp_region_held_drew (S := fun w' => w'.heap[b]? = some (.cells (endCells ({ k with tr := k.tr + 1, du := now + 40000 }) now v) 72)) (by kernel_rfl) HR.out (fun hHeld => ?_)
  refine wpAnyH_take (i := 0) (v := .pointer (some ⟨b, 0, none⟩)) rfl (by kernel_rfl) (by kernel_rfl) (by kernel_rfl) (fun _ _ _ h => h) (Or.inl ⟨by rfl, by intro w hSw; clear hHeld; go_simp⟩) (by assumption) ?_
  simp only [Act.put, List.setIfInBounds_toArray, List.set_cons_zero, List.set_cons_succ, List.getElem_toArray, List.getElem_cons_succ, List.getElem_cons_zero]
  refine wpAnyH_take (i := 1) (v := .pointer (some ⟨b, 0, none⟩)) rfl (by kernel_rfl) (by kernel_rfl) (by kernel_rfl) (fun _ _ _ h => h) (Or.inl ⟨by rfl, by intro w hSw; clear hHeld; go_simp⟩) (by assumption) ?_
  simp only [Act.put, List.setIfInBounds_toArray, List.set_cons_zero, List.set_cons_succ, List.getElem_toArray, List.getElem_cons_succ, List.getElem_cons_zero]
  refine wpAnyH_take (i := 2) (v := .pointer (some ⟨b, 0, none⟩)) rfl (by kernel_rfl) (by kernel_rfl) (by kernel_rfl) (fun _ _ _ h => h) (Or.inl ⟨by rfl, by intro w hSw; clear hHeld; go_simp⟩) (by assumption) ?_
  simp only [Act.put, List.setIfInBounds_toArray, List.set_cons_zero, List.set_cons_succ, List.getElem_toArray, List.getElem_cons_succ, List.getElem_cons_zero]
  refine wpAnyH_take (i := 3) (v := .agg (({ k with tr := k.tr + 1, du := now + 40000 })).cells) rfl (by kernel_rfl) (by kernel_rfl) (by kernel_rfl) (fun _ _ _ h => h) (yields_row (by rfl) 27 _ rfl b (by rfl) (({ k with tr := k.tr + 1, du := now + 40000 })).cells _ (fun w' h' => range_end h') Try.underlying27 rfl HI.out) (by assumption) ?_
  simp only [Act.put, List.setIfInBounds_toArray, List.set_cons_zero, List.set_cons_succ, List.getElem_toArray, List.getElem_cons_succ, List.getElem_cons_zero]
  refine wpAnyH_take (i := 4) (v := .pointer (some ⟨b, 0, none⟩)) rfl (by kernel_rfl) (by kernel_rfl) (by kernel_rfl) (fun _ _ _ h => h) (Or.inl ⟨by rfl, by intro w hSw; clear hHeld; go_simp⟩) (by assumption) ?_
  simp only [Act.put, List.setIfInBounds_toArray, List.set_cons_zero, List.set_cons_succ, List.getElem_toArray, List.getElem_cons_succ, List.getElem_cons_zero]
  refine wpAnyH_take (i := 5) (v := .pointer (some ⟨b, 0, none⟩)) rfl (by kernel_rfl) (by kernel_rfl) (by kernel_rfl) (fun _ _ _ h => h) (Or.inl ⟨by rfl, by intro w hSw; clear hHeld; go_simp⟩) (by assumption) ?_
  simp only [Act.put, List.setIfInBounds_toArray, List.set_cons_zero, List.set_cons_succ, List.getElem_toArray, List.getElem_cons_succ, List.getElem_cons_zero]
  refine wpAnyH_take (i := 6) (v := .pointer (some ⟨b, 18, none⟩)) rfl (by kernel_rfl) (by kernel_rfl) (by kernel_rfl) (fun _ _ _ h => h) (Or.inl ⟨by rfl, by intro w hSw; clear hHeld; go_simp⟩) (by assumption) ?_
  simp only [Act.put, List.setIfInBounds_toArray, List.set_cons_zero, List.set_cons_succ, List.getElem_toArray, List.getElem_cons_succ, List.getElem_cons_zero]
  refine wpAnyH_take (i := 7) (v := v) rfl (by kernel_rfl) (by kernel_rfl) (by kernel_rfl) (fun _ _ _ h => h) (Or.inl ⟨by rfl, by intro w hSw; clear hHeld; have c18 : w.cell? ⟨b, 18, none⟩ = some v := (cell_of_row _ _ _ _ _ _ hSw).trans rfl; clear hSw; go_simp⟩) (by assumption) ?_
  simp only [Act.put, List.setIfInBounds_toArray, List.set_cons_zero, List.set_cons_succ, List.getElem_toArray, List.getElem_cons_succ, List.getElem_cons_zero]
  refine wpAnyH_ready (rs := [8]) (by kernel_rfl) (by simp) ?_
  refine AllReadyH.cons (i := 8) (rs := []) rfl ?_ AllReadyH.nil
  intro Kq hKq
  simp only [List.getElem_toArray, List.getElem_cons_succ, List.getElem_cons_zero]
  rw [if_pos (by rfl)]
  refine wp_store_row 27 (.tmp 4) (.tmp 62) (by rfl) (w.heap.size + 1) (({ k with tr := k.tr + 1, du := now + 40000 })).cells (by as_aux_lemma => kernel_rfl) (by as_aux_lemma => kernel_rfl) 27 #[.int .u8 0, .int .u8 0, .int .u8 0, .int .u8 0, .int .u8 0, .int .u8 0, .int .u8 0, .int .u8 0, .int .u8 0, .int .u8 0, .int .u8 0, .int .u8 0, .int .u8 0, .int .i64 0, .int .i64 0, .int .i64 0, .int .i64 0] RQ.out HI.out (by as_aux_lemma => kernel_rfl) (one_cells _) ?_
  refine hKq.out _ _ ((setRow_other _ _ _ _ (by omega)).trans HR.out) (fun hHeld2 => ?_)
  clear hKq Kq hHeld
  have hHeld := hHeld2
  clear hHeld2
  refine wpAnyH_take (i := 9) (v := v) rfl (by kernel_rfl) (by kernel_rfl) (by kernel_rfl) (fun _ _ _ h => h) (Or.inl ⟨by rfl, by intro w hSw; clear hHeld; go_simp⟩) (by assumption) ?_
  simp only [Act.put, List.setIfInBounds_toArray, List.set_cons_zero, List.set_cons_succ, List.getElem_toArray, List.getElem_cons_succ, List.getElem_cons_zero]
  refine wpAnyH_take (i := 10) (v := .int .i64 0) rfl (by kernel_rfl) (by kernel_rfl) (by kernel_rfl) (fun _ _ _ h => h) (Or.inl ⟨by rfl, by intro w hSw; clear hHeld; go_simp⟩) (by assumption) ?_
  simp only [Act.put, List.setIfInBounds_toArray, List.set_cons_zero, List.set_cons_succ, List.getElem_toArray, List.getElem_cons_succ, List.getElem_cons_zero]
  clear hHeld
  refine wpAnyH_done (by kernel_rfl) ?_ _
  go_wp2
  refine bodyPost_ret (results_row3 rfl _ _ (w.heap.size + 1) 27 (({ k with tr := k.tr + 1, du := now + 40000 })).cells (0, 0) _ rfl (setRow_heap _ _ _ _ _ _ (row_drew RQ.out)) Try.underlying27 rfl HI.out) rfl ?_
  exact ⟨v, rfl, (HO.out.drew.setRow _ (by omega) _).mono (by omega), below_setRow' HB.out.drew (by omega) _⟩
set_option maxHeartbeats 4000000 in
set_option maxRecDepth 100000 in
theorem tick_conf (k : Lk) (hB : k.By) (now : Int) (h : k.chk = 0) (ht : btw now 0 1099511627776 = true) (hn0 : 0 ≤ now) (hn1 : now ≤ 1099511627776) (hI : k.In) (hs : (k.du == 0) = false) (hd : k.du ≤ now) (h3 : k.st = 3) (ht0 : 0 ≤ k.tr) (ht3 : k.tr < 3) (w : World) : Calls Try.prog 21 #[.agg k.cells, .int .i64 now] w (Ret3 w { k with tr := k.tr + 1, du := now + 40000 } [] 0) := by
  obtain ⟨rs, rq⟩ := fr_rows2 w (.cells k.cells 27) (.cells #[.int .u8 0, .int .u8 0, .int .u8 0, .int .u8 0, .int .u8 0, .int .u8 0, .int .u8 0, .int .u8 0, .int .u8 0, .int .u8 0, .int .u8 0, .int .u8 0, .int .u8 0, .int .i64 0, .int .i64 0, .int .i64 0, .int .i64 0] 27)
  have R0 := Lib.hid rs
  have Q0 := Lib.hid rq
  have HIK := Lib.hid (link_info2 k)
  have HIZ := Lib.hid link_infoZ
  clear rs rq
  go_enter Try.func21, Try.ntmps21
  go_wp2_with (with_reducible refine wpList_load_row rfl 27 (.tmp 2) rfl w.heap.size rfl 27 k.cells (0, 0) _ R0.out Try.underlying27 rfl HIK.out ?_)
  refine (begun_ok k hB now h ht _).mono ?_
  rintro e w1 ⟨b, rfl, hE, hb, hB1⟩
  have HE := Lib.hid hE
  have hbz : w.heap.size + 1 + 1 ≤ b := by simpa only [World.size_alloc] using hb
  have RS := Lib.hid (row_below hB1 R0.out)
  have RQ1 := Lib.hid (row_below hB1 Q0.out)
  have HB1 := Lib.hid ((((Below.refl w.heap.size w).alloc (Nat.le_refl _) _).alloc (by simp only [World.size_alloc]; omega) _).trans (hB1.mono (by simp only [World.size_alloc]; omega)))
  clear hE hB1 R0 Q0 hb
  have s12 : w1.cell? ⟨w.heap.size, 12, none⟩ = some (.int .u8 k.st) := (cell_of_row _ _ _ _ _ _ RS.out).trans (lk_st k)
  have s15 : w1.cell? ⟨w.heap.size, 15, none⟩ = some (.int .i64 k.tr) := (cell_of_row _ _ _ _ _ _ RS.out).trans (lk_tr k)
  have s16 : w1.cell? ⟨w.heap.size, 16, none⟩ = some (.int .i64 k.du) := (cell_of_row _ _ _ _ _ _ RS.out).trans (lk_du k)
  obtain ⟨v0, hr0, ho0⟩ := HE.out
  have c15 : w1.cell? ⟨b, 15, none⟩ = some (.int .i64 k.tr) := (cell_of_row _ _ _ _ _ _ hr0).trans rfl
  have c16 : w1.cell? ⟨b, 16, none⟩ = some (.int .i64 k.du) := (cell_of_row _ _ _ _ _ _ hr0).trans rfl
  have hf : ∀ o, w1.frozen? ⟨b, o, none⟩ = false := fun o => frozen_of_row _ _ _ _ _ hr0
  have hyb : b < w1.heap.size := row_lt hr0
  have hne : w.heap.size ≠ b := by omega
  clear hr0 ho0
  have HE2 := Lib.hid (HE.out.setDue (k.tr + 1) (now + 40000))
  have RQ2 := Lib.hid (show ((w1.setCell ⟨b, 15, none⟩ (.int .i64 (k.tr + 1))).setCell ⟨b, 16, none⟩ (.int .i64 (now + 40000))).heap[w.heap.size + 1]? = some (.cells #[.int .u8 0, .int .u8 0, .int .u8 0, .int .u8 0, .int .u8 0, .int .u8 0, .int .u8 0, .int .u8 0, .int .u8 0, .int .u8 0, .int .u8 0, .int .u8 0, .int .u8 0, .int .i64 0, .int .i64 0, .int .i64 0, .int .i64 0] 27) from row_set (by simp only []; omega) (row_set (by simp only []; omega) RQ1.out))
  have HB2 := Lib.hid (show Below w.heap.size w ((w1.setCell ⟨b, 15, none⟩ (.int .i64 (k.tr + 1))).setCell ⟨b, 16, none⟩ (.int .i64 (now + 40000))) from ((HB1.out.setCell (p := ⟨b, 15, none⟩) (by simp only []; omega) _).setCell (p := ⟨b, 16, none⟩) (by simp only []; omega) _))
  clear HE
  go_wp2_with fail
  clear s12 s15 s16 c15 c16 hf hyb
  obtain ⟨v, hr, ho⟩ := HE2.out
  have HR := Lib.hid hr
  have HO := Lib.hid ho
  have RQ := RQ2
  have HB := HB2
  clear hr ho
  go_wp2_with fail
  have HI := Lib.hid (link_info2 ({ k with tr := k.tr + 1, du := now + 40000 }))
  refine wp_region_held_drew (S := fun w' => w'.heap[b]? = some (.cells (endCells ({ k with tr := k.tr + 1, du := now + 40000 }) now v) 72)) (by kernel_rfl) HR.out (fun hHeld => ?_)
  refine wpAnyH_take (i := 0) (v := .pointer (some ⟨b, 0, none⟩)) rfl (by kernel_rfl) (by kernel_rfl) (by kernel_rfl) (fun _ _ _ h => h) (Or.inl ⟨by rfl, by intro w hSw; clear hHeld; go_simp⟩) (by assumption) ?_
  simp only [Act.put, List.setIfInBounds_toArray, List.set_cons_zero, List.set_cons_succ, List.getElem_toArray, List.getElem_cons_succ, List.getElem_cons_zero]
  refine wpAnyH_take (i := 1) (v := .pointer (some ⟨b, 0, none⟩)) rfl (by kernel_rfl) (by kernel_rfl) (by kernel_rfl) (fun _ _ _ h => h) (Or.inl ⟨by rfl, by intro w hSw; clear hHeld; go_simp⟩) (by assumption) ?_
  simp only [Act.put, List.setIfInBounds_toArray, List.set_cons_zero, List.set_cons_succ, List.getElem_toArray, List.getElem_cons_succ, List.getElem_cons_zero]
  refine wpAnyH_take (i := 2) (v := .pointer (some ⟨b, 0, none⟩)) rfl (by kernel_rfl) (by kernel_rfl) (by kernel_rfl) (fun _ _ _ h => h) (Or.inl ⟨by rfl, by intro w hSw; clear hHeld; go_simp⟩) (by assumption) ?_
  simp only [Act.put, List.setIfInBounds_toArray, List.set_cons_zero, List.set_cons_succ, List.getElem_toArray, List.getElem_cons_succ, List.getElem_cons_zero]
  refine wpAnyH_take (i := 3) (v := .agg (({ k with tr := k.tr + 1, du := now + 40000 })).cells) rfl (by kernel_rfl) (by kernel_rfl) (by kernel_rfl) (fun _ _ _ h => h) (yields_row (by rfl) 27 _ rfl b (by rfl) (({ k with tr := k.tr + 1, du := now + 40000 })).cells _ (fun w' h' => range_end h') Try.underlying27 rfl HI.out) (by assumption) ?_
  simp only [Act.put, List.setIfInBounds_toArray, List.set_cons_zero, List.set_cons_succ, List.getElem_toArray, List.getElem_cons_succ, List.getElem_cons_zero]
  refine wpAnyH_take (i := 4) (v := .pointer (some ⟨b, 0, none⟩)) rfl (by kernel_rfl) (by kernel_rfl) (by kernel_rfl) (fun _ _ _ h => h) (Or.inl ⟨by rfl, by intro w hSw; clear hHeld; go_simp⟩) (by assumption) ?_
  simp only [Act.put, List.setIfInBounds_toArray, List.set_cons_zero, List.set_cons_succ, List.getElem_toArray, List.getElem_cons_succ, List.getElem_cons_zero]
  refine wpAnyH_take (i := 5) (v := .pointer (some ⟨b, 0, none⟩)) rfl (by kernel_rfl) (by kernel_rfl) (by kernel_rfl) (fun _ _ _ h => h) (Or.inl ⟨by rfl, by intro w hSw; clear hHeld; go_simp⟩) (by assumption) ?_
  simp only [Act.put, List.setIfInBounds_toArray, List.set_cons_zero, List.set_cons_succ, List.getElem_toArray, List.getElem_cons_succ, List.getElem_cons_zero]
  refine wpAnyH_take (i := 6) (v := .pointer (some ⟨b, 18, none⟩)) rfl (by kernel_rfl) (by kernel_rfl) (by kernel_rfl) (fun _ _ _ h => h) (Or.inl ⟨by rfl, by intro w hSw; clear hHeld; go_simp⟩) (by assumption) ?_
  simp only [Act.put, List.setIfInBounds_toArray, List.set_cons_zero, List.set_cons_succ, List.getElem_toArray, List.getElem_cons_succ, List.getElem_cons_zero]
  refine wpAnyH_take (i := 7) (v := v) rfl (by kernel_rfl) (by kernel_rfl) (by kernel_rfl) (fun _ _ _ h => h) (Or.inl ⟨by rfl, by intro w hSw; clear hHeld; have c18 : w.cell? ⟨b, 18, none⟩ = some v := (cell_of_row _ _ _ _ _ _ hSw).trans rfl; clear hSw; go_simp⟩) (by assumption) ?_
  simp only [Act.put, List.setIfInBounds_toArray, List.set_cons_zero, List.set_cons_succ, List.getElem_toArray, List.getElem_cons_succ, List.getElem_cons_zero]
  refine wpAnyH_ready (rs := [8]) (by kernel_rfl) (by simp) ?_
  refine AllReadyH.cons (i := 8) (rs := []) rfl ?_ AllReadyH.nil
  intro Kq hKq
  simp only [List.getElem_toArray, List.getElem_cons_succ, List.getElem_cons_zero]
  rw [if_pos (by rfl)]
  refine wp_store_row 27 (.tmp 4) (.tmp 62) (by rfl) (w.heap.size + 1) (({ k with tr := k.tr + 1, du := now + 40000 })).cells (by as_aux_lemma => kernel_rfl) (by as_aux_lemma => kernel_rfl) 27 #[.int .u8 0, .int .u8 0, .int .u8 0, .int .u8 0, .int .u8 0, .int .u8 0, .int .u8 0, .int .u8 0, .int .u8 0, .int .u8 0, .int .u8 0, .int .u8 0, .int .u8 0, .int .i64 0, .int .i64 0, .int .i64 0, .int .i64 0] RQ.out HI.out (by as_aux_lemma => kernel_rfl) (one_cells _) ?_
  refine hKq.out _ _ ((setRow_other _ _ _ _ (by omega)).trans HR.out) (fun hHeld2 => ?_)
  clear hKq Kq hHeld
  have hHeld := hHeld2
  clear hHeld2
  refine wpAnyH_take (i := 9) (v := v) rfl (by kernel_rfl) (by kernel_rfl) (by kernel_rfl) (fun _ _ _ h => h) (Or.inl ⟨by rfl, by intro w hSw; clear hHeld; go_simp⟩) (by assumption) ?_
  simp only [Act.put, List.setIfInBounds_toArray, List.set_cons_zero, List.set_cons_succ, List.getElem_toArray, List.getElem_cons_succ, List.getElem_cons_zero]
  refine wpAnyH_take (i := 10) (v := .int .i64 0) rfl (by kernel_rfl) (by kernel_rfl) (by kernel_rfl) (fun _ _ _ h => h) (Or.inl ⟨by rfl, by intro w hSw; clear hHeld; go_simp⟩) (by assumption) ?_
  simp only [Act.put, List.setIfInBounds_toArray, List.set_cons_zero, List.set_cons_succ, List.getElem_toArray, List.getElem_cons_succ, List.getElem_cons_zero]
  clear hHeld
  refine wpAnyH_done (by kernel_rfl) ?_ _
  go_wp2
  refine bodyPost_ret (results_row3 rfl _ _ (w.heap.size + 1) 27 (({ k with tr := k.tr + 1, du := now + 40000 })).cells (0, 0) _ rfl (setRow_heap _ _ _ _ _ _ (row_drew RQ.out)) Try.underlying27 rfl HI.out) rfl ?_
  exact ⟨v, rfl, (HO.out.drew.setRow _ (by omega) _).mono (by omega), below_setRow' HB.out.drew (by omega) _⟩
end Go.Proofs.Ytmighkgjbohieaa
