/-
  The reference's Tick: a second and a third try; Tick for all arguments.
-/
import Derived.Test.YtmighkgjbohieaaPeerRefI
set_option linter.unusedVariables false
set_option linter.unusedSimpArgs false
namespace Go.Proofs.Ytmighkgjbohieaa
open Go.ChangeShapes Go.WideShapes Go.ChangeAt Go.RowKit Go.Great

set_option maxHeartbeats 4000000 in
theorem rtick_conf (k : Lk) (hB : k.By) (hz : 0 ≤ k.st) (now : Int) (h : k.chk = 0) (ht : tinB now = true) (hv : k.Val) (hd : (k.du == 0) = false) (hn : k.du ≤ now) (h3 : k.tr < 3) (h5 : k.st = 3) (w : World) : Calls Try.prog 29 #[.agg k.cells, .int .i64 now] w (Ret3 w (againK k now) [] 0) := by
  obtain ⟨n0, n1⟩ := tin_in ht
  obtain ⟨i0, i1, j0, j1⟩ := (chk_val h).toIn
  have i2 := ((chk_shape k).1 h).2.1
  obtain ⟨q0, q1⟩ := fr_rows2 w (.cells k.cells 27) (.cells #[.int .u8 0, .int .u8 0, .int .u8 0, .int .u8 0, .int .u8 0, .int .u8 0, .int .u8 0, .int .u8 0, .int .u8 0, .int .u8 0, .int .u8 0, .int .u8 0, .int .u8 0, .int .i64 0, .int .i64 0, .int .i64 0, .int .i64 0] 27)
  have Q0 := Lib.hid q0
  have Q1 := Lib.hid q1
  clear q0 q1
  have HI := Lib.hid (link_info2 k)
  have HC := Lib.hid (link_info2 (againK k now))
  have hbv : beforeI k now = 0 := by simp only [beforeI, h, ht]; rfl
  go_enter Try.func29, Try.ntmps29
  go_wp2_with (with_reducible refine wpList_load_row rfl 27 (.tmp 2) rfl (w.heap.size) rfl 27 (k).cells (0, 0) _ Q0.out Try.underlying27 rfl HI.out ?_)
  refine (before_any k hB hz now _).mono ?_
  rintro e w1 ⟨rfl, hb⟩
  have P0 := Lib.hid (row_below hb Q0.out)
  have P1 := Lib.hid (row_below hb Q1.out)
  have HB := Lib.hid (below_step (below_more (below_more (Below.refl w.heap.size w) (.cells k.cells 27)) (.cells #[.int .u8 0, .int .u8 0, .int .u8 0, .int .u8 0, .int .u8 0, .int .u8 0, .int .u8 0, .int .u8 0, .int .u8 0, .int .u8 0, .int .u8 0, .int .u8 0, .int .u8 0, .int .i64 0, .int .i64 0, .int .i64 0, .int .i64 0] 27)) hb)
  clear hb Q0 Q1
  simp only [hbv]
  have s12 : w1.cell? ⟨w.heap.size, 12, none⟩ = some (.int .u8 k.st) := (cell_of_row _ _ _ _ _ _ P0.out).trans (lk_st k)
  have s15 : w1.cell? ⟨w.heap.size, 15, none⟩ = some (.int .i64 k.tr) := (cell_of_row _ _ _ _ _ _ P0.out).trans (lk_tr k)
  have s16 : w1.cell? ⟨w.heap.size, 16, none⟩ = some (.int .i64 k.du) := (cell_of_row _ _ _ _ _ _ P0.out).trans (lk_du k)
  have j15 := hv.tr0
  have cf : ∀ o, w1.frozen? ⟨w.heap.size, o, none⟩ = false := fun o => frozen_of_row _ _ _ _ _ P0.out
  have RK := Lib.hid (show ((w1.setCell ⟨w.heap.size, 15, none⟩ (.int .i64 (k.tr + 1))).setCell ⟨w.heap.size, 16, none⟩ (.int .i64 (now + 40000))).heap[w.heap.size]? = some (.cells (againK k now).cells 27) from heap_setCell_same _ _ 16 _ _ _ (heap_setCell_same _ _ 15 _ _ _ P0.out))
  have RZ := Lib.hid (show ((w1.setCell ⟨w.heap.size, 15, none⟩ (.int .i64 (k.tr + 1))).setCell ⟨w.heap.size, 16, none⟩ (.int .i64 (now + 40000))).heap[w.heap.size + 1]? = some (.cells #[.int .u8 0, .int .u8 0, .int .u8 0, .int .u8 0, .int .u8 0, .int .u8 0, .int .u8 0, .int .u8 0, .int .u8 0, .int .u8 0, .int .u8 0, .int .u8 0, .int .u8 0, .int .i64 0, .int .i64 0, .int .i64 0, .int .i64 0] 27) from row_set (by simp only []; omega) (row_set (by simp only []; omega) P1.out))
  have HBX := Lib.hid (show Below w.heap.size w ((w1.setCell ⟨w.heap.size, 15, none⟩ (.int .i64 (k.tr + 1))).setCell ⟨w.heap.size, 16, none⟩ (.int .i64 (now + 40000))) from (HB.out.setCell (p := ⟨w.heap.size, 15, none⟩) (Nat.le_refl _) _).setCell (p := ⟨w.heap.size, 16, none⟩) (Nat.le_refl _) _)
  rw [h5] at s12
  go_wp2_with (first
    | (with_reducible refine wpList_load_row rfl 27 (.tmp 2) rfl (w.heap.size) rfl 27 (againK k now).cells (0, 0) _ RK.out Try.underlying27 rfl HC.out ?_)
    | ((with_reducible refine wpList_store_rowTo rfl 27 (.tmp 4) (.tmp 53) rfl rfl (w.heap.size + 1) (againK k now).cells ?_ ?_ 27 #[.int .u8 0, .int .u8 0, .int .u8 0, .int .u8 0, .int .u8 0, .int .u8 0, .int .u8 0, .int .u8 0, .int .u8 0, .int .u8 0, .int .u8 0, .int .u8 0, .int .u8 0, .int .i64 0, .int .i64 0, .int .i64 0, .int .i64 0] RZ.out HC.out rfl (one_cells _) ?_); (as_aux_lemma => kernel_rfl); (as_aux_lemma => kernel_rfl)))
  refine bodyPost_ret (results_row3 rfl _ _ (w.heap.size + 1) 27 (againK k now).cells (0, 0) _ rfl (setRow_heap _ _ _ _ _ _ RZ.out) Try.underlying27 rfl HC.out) rfl ?_
  exact ⟨_, rfl, outAt_nil _ _, below_setRow' HBX.out (Nat.le_succ _) _⟩
set_option maxRecDepth 100000 in
set_option maxHeartbeats 4000000 in
theorem rtick_again (k : Lk) (hB : k.By) (hz : 0 ≤ k.st) (now : Int) (h : k.chk = 0) (ht : tinB now = true) (hv : k.Val) (hd : (k.du == 0) = false) (hn : k.du ≤ now) (h3 : k.tr < 3) (h5 : (k.st == 5) = false) (h6 : (k.st == 3) = false) (w : World) : Calls Try.prog 29 #[.agg k.cells, .int .i64 now] w (Ret3 w (againK k now) [msgOf 1 k.id 0] 0) := by
  obtain ⟨n0, n1⟩ := tin_in ht
  obtain ⟨i0, i1, j0, j1⟩ := (chk_val h).toIn
  have i2 := ((chk_shape k).1 h).2.1
  obtain ⟨q0, q1⟩ := fr_rows2 w (.cells k.cells 27) (.cells #[.int .u8 0, .int .u8 0, .int .u8 0, .int .u8 0, .int .u8 0, .int .u8 0, .int .u8 0, .int .u8 0, .int .u8 0, .int .u8 0, .int .u8 0, .int .u8 0, .int .u8 0, .int .i64 0, .int .i64 0, .int .i64 0, .int .i64 0] 27)
  have Q0 := Lib.hid q0
  have Q1 := Lib.hid q1
  clear q0 q1
  have HI := Lib.hid (link_info2 k)
  have HC := Lib.hid (link_info2 (againK k now))
  have hbv : beforeI k now = 0 := by simp only [beforeI, h, ht]; rfl
  go_enter Try.func29, Try.ntmps29
  go_wp2_with (with_reducible refine wpList_load_row rfl 27 (.tmp 2) rfl (w.heap.size) rfl 27 (k).cells (0, 0) _ Q0.out Try.underlying27 rfl HI.out ?_)
  refine (before_any k hB hz now _).mono ?_
  rintro e w1 ⟨rfl, hb⟩
  have P0 := Lib.hid (row_below hb Q0.out)
  have P1 := Lib.hid (row_below hb Q1.out)
  have HB := Lib.hid (below_step (below_more (below_more (Below.refl w.heap.size w) (.cells k.cells 27)) (.cells #[.int .u8 0, .int .u8 0, .int .u8 0, .int .u8 0, .int .u8 0, .int .u8 0, .int .u8 0, .int .u8 0, .int .u8 0, .int .u8 0, .int .u8 0, .int .u8 0, .int .u8 0, .int .i64 0, .int .i64 0, .int .i64 0, .int .i64 0] 27)) hb)
  clear hb Q0 Q1
  simp only [hbv]
  have s12 : w1.cell? ⟨w.heap.size, 12, none⟩ = some (.int .u8 k.st) := (cell_of_row _ _ _ _ _ _ P0.out).trans (lk_st k)
  have s15 : w1.cell? ⟨w.heap.size, 15, none⟩ = some (.int .i64 k.tr) := (cell_of_row _ _ _ _ _ _ P0.out).trans (lk_tr k)
  have s16 : w1.cell? ⟨w.heap.size, 16, none⟩ = some (.int .i64 k.du) := (cell_of_row _ _ _ _ _ _ P0.out).trans (lk_du k)
  have j15 := hv.tr0
  have cf : ∀ o, w1.frozen? ⟨w.heap.size, o, none⟩ = false := fun o => frozen_of_row _ _ _ _ _ P0.out
  have RK := Lib.hid (show ((w1.setCell ⟨w.heap.size, 15, none⟩ (.int .i64 (k.tr + 1))).setCell ⟨w.heap.size, 16, none⟩ (.int .i64 (now + 40000))).heap[w.heap.size]? = some (.cells (againK k now).cells 27) from heap_setCell_same _ _ 16 _ _ _ (heap_setCell_same _ _ 15 _ _ _ P0.out))
  have RZ := Lib.hid (show ((w1.setCell ⟨w.heap.size, 15, none⟩ (.int .i64 (k.tr + 1))).setCell ⟨w.heap.size, 16, none⟩ (.int .i64 (now + 40000))).heap[w.heap.size + 1]? = some (.cells #[.int .u8 0, .int .u8 0, .int .u8 0, .int .u8 0, .int .u8 0, .int .u8 0, .int .u8 0, .int .u8 0, .int .u8 0, .int .u8 0, .int .u8 0, .int .u8 0, .int .u8 0, .int .i64 0, .int .i64 0, .int .i64 0, .int .i64 0] 27) from row_set (by simp only []; omega) (row_set (by simp only []; omega) P1.out))
  have HBX := Lib.hid (show Below w.heap.size w ((w1.setCell ⟨w.heap.size, 15, none⟩ (.int .i64 (k.tr + 1))).setCell ⟨w.heap.size, 16, none⟩ (.int .i64 (now + 40000))) from (HB.out.setCell (p := ⟨w.heap.size, 15, none⟩) (Nat.le_refl _) _).setCell (p := ⟨w.heap.size, 16, none⟩) (Nat.le_refl _) _)
  go_upto_region 15 with fail
  clear s12 s15 s16 cf
  refine wp_region_held_drew (S := fun w' => w'.heap[w.heap.size]? = some (.cells (againK k now).cells 27)) (by kernel_rfl) (RK.out) (fun hHeld => ?_)
  refine wpAnyH_take (i := 0) (v := .agg (againK k now).cells) rfl (by kernel_rfl) (by kernel_rfl) (by kernel_rfl) (fun _ _ _ h => h) (yields_sub (by rfl) 27 _ rfl (w.heap.size) 0 (by rfl) (againK k now).cells _ (fun w' h' => range_row h') Try.underlying27 rfl HC.out) (by assumption) ?_
  simp only [Act.put, List.setIfInBounds_toArray, List.set_cons_zero, List.set_cons_succ, List.getElem_toArray, List.getElem_cons_succ, List.getElem_cons_zero]
  refine wpAnyH_take (i := 1) (v := .pointer (some ⟨w.heap.size, 13, none⟩)) rfl (by kernel_rfl) (by kernel_rfl) (by kernel_rfl) (fun _ _ _ h => h) (Or.inl ⟨by rfl, by intro w hSw; clear hHeld hSw; go_simp; (try rfl)⟩) (by assumption) ?_
  simp only [Act.put, List.setIfInBounds_toArray, List.set_cons_zero, List.set_cons_succ, List.getElem_toArray, List.getElem_cons_succ, List.getElem_cons_zero]
  refine wpAnyH_take (i := 2) (v := .int .i64 k.id) rfl (by kernel_rfl) (by kernel_rfl) (by kernel_rfl) (fun _ _ _ h => h) (Or.inl ⟨by rfl, by intro w2 hSw; have tq : w2.cell? ⟨w.heap.size, 13, none⟩ = some (.int .i64 k.id) := (cell_of_row _ _ _ _ _ _ hSw).trans rfl; clear hHeld hSw; go_simp⟩) (by assumption) ?_
  simp only [Act.put, List.setIfInBounds_toArray, List.set_cons_zero, List.set_cons_succ, List.getElem_toArray, List.getElem_cons_succ, List.getElem_cons_zero]
  refine wpAnyH_ready (rs := [3]) (by kernel_rfl) (by simp) ?_
  refine AllReadyH.cons (i := 3) (rs := []) rfl ?_ AllReadyH.nil
  intro Kq hKq
  simp only [List.getElem_toArray, List.getElem_cons_succ, List.getElem_cons_zero]
  rw [if_pos (by rfl)]
  refine wp_call_fn 34 #[.int .i64 k.id] (_) (by as_aux_lemma => kernel_rfl) (open_any k.id (by omega) i1 _) ?_
  rintro e wd1 ⟨mv, rfl, hM, hb⟩
  obtain ⟨mb1, rfl⟩ := msg_form hM rfl
  refine ⟨.slice (some ⟨mb1, 0, none⟩) 5 5, rfl, ?_⟩
  have PA1 := Lib.hid (row_below hb RK.out)
  have PB1 := Lib.hid (row_below hb RZ.out)
  have hz1 : w.heap.size + 1 < wd1.heap.size := row_lt PB1.out
  have HM1 := Lib.hid (MsgAt.less hM (show w.heap.size + 2 ≤ _ from row_lt RZ.out))
  clear hM
  have HBB1 := Lib.hid (HBX.out.drew.trans (hb.mono HBX.out.size))
  clear hb
  refine hKq.out _ _ (PA1.out) (fun hHeld2 => ?_)
  clear hKq Kq hHeld
  have hHeld := hHeld2
  clear hHeld2
  simp only [Act.put, List.setIfInBounds_toArray, List.set_cons_zero, List.set_cons_succ]
  refine wpAnyH_ready (rs := [4, 5]) (by kernel_rfl) (by simp) ?_
  refine AllReadyH.cons (i := 4) (rs := [5]) rfl ?_ (AllReadyH.cons (i := 5) (rs := []) rfl ?_ AllReadyH.nil)
  · intro Kq hKq
    simp only [List.getElem_toArray, List.getElem_cons_succ, List.getElem_cons_zero]
    rw [if_pos (by rfl)]
    refine wp_op_value (.slice (some ⟨wd1.heap.size, 0, none⟩) 1 1) (wd1.alloc (.cells #[.slice (some ⟨mb1, 0, none⟩) 5 5] 45)) (by as_aux_lemma => kernel_rfl) ?_
    refine hKq.out _ _ (row_alloc PA1.out) (fun hHeld2 => ?_)
    clear hKq Kq hHeld
    have hHeld := hHeld2
    clear hHeld2
    simp only [Act.put, List.setIfInBounds_toArray, List.set_cons_zero, List.set_cons_succ]
    refine wpAnyH_ready (rs := [5]) (by kernel_rfl) (by simp) ?_
    refine AllReadyH.cons (i := 5) (rs := []) rfl ?_ AllReadyH.nil
    intro Kq hKq
    simp only [List.getElem_toArray, List.getElem_cons_succ, List.getElem_cons_zero]
    rw [if_pos (by rfl)]
    refine wp_store_row 27 (.tmp 4) (.tmp 54) (by rfl) (w.heap.size + 1) (againK k now).cells (by as_aux_lemma => kernel_rfl) (by as_aux_lemma => kernel_rfl) 27 #[.int .u8 0, .int .u8 0, .int .u8 0, .int .u8 0, .int .u8 0, .int .u8 0, .int .u8 0, .int .u8 0, .int .u8 0, .int .u8 0, .int .u8 0, .int .u8 0, .int .u8 0, .int .i64 0, .int .i64 0, .int .i64 0, .int .i64 0] (row_alloc PB1.out) HC.out (by as_aux_lemma => kernel_rfl) (one_cells _) ?_
    refine hKq.out _ _ ((setRow_other _ _ _ _ (Nat.ne_of_lt (Nat.lt_succ_self _))).trans (row_alloc PA1.out)) (fun hHeld2 => ?_)
    clear hKq Kq hHeld
    have hHeld := hHeld2
    clear hHeld2
    simp only [Act.put, List.setIfInBounds_toArray, List.set_cons_zero, List.set_cons_succ]
    refine wpAnyH_take (i := 6) (v := .slice (some ⟨wd1.heap.size, 0, none⟩) 1 1) rfl (by kernel_rfl) (by kernel_rfl) (by kernel_rfl) (fun _ _ _ h => h) (Or.inl ⟨by rfl, by intro w hSw; clear hHeld hSw; go_simp; (try rfl)⟩) (by assumption) ?_
    simp only [Act.put, List.setIfInBounds_toArray, List.set_cons_zero, List.set_cons_succ, List.getElem_toArray, List.getElem_cons_succ, List.getElem_cons_zero]
    refine wpAnyH_take (i := 7) (v := .int .i64 0) rfl (by kernel_rfl) (by kernel_rfl) (by kernel_rfl) (fun _ _ _ h => h) (Or.inl ⟨by rfl, by intro w hSw; clear hHeld hSw; go_simp; (try rfl)⟩) (by assumption) ?_
    simp only [Act.put, List.setIfInBounds_toArray, List.set_cons_zero, List.set_cons_succ, List.getElem_toArray, List.getElem_cons_succ, List.getElem_cons_zero]
    clear hHeld
    refine wpAnyH_done (by kernel_rfl) ?_ _
    go_wp2
    refine bodyPost_ret (results_row3 rfl _ _ (w.heap.size + 1) 27 (againK k now).cells (0, 0) _ rfl (setRow_heap _ _ _ _ _ _ (row_alloc PB1.out)) Try.underlying27 rfl HC.out) rfl ?_
    exact ⟨_, rfl, ((out_lit (heap_alloc_new wd1 _) hz1 (HM1.out.below ((Below.refl _ _).alloc (Nat.le_refl _) _))).setRow _ (Nat.lt_succ_self _) _).mono (by omega), below_setRow' (below_more HBB1.out _) (Nat.le_succ _) _⟩
  · intro Kq hKq
    simp only [List.getElem_toArray, List.getElem_cons_succ, List.getElem_cons_zero]
    rw [if_pos (by rfl)]
    refine wp_store_row 27 (.tmp 4) (.tmp 54) (by rfl) (w.heap.size + 1) (againK k now).cells (by as_aux_lemma => kernel_rfl) (by as_aux_lemma => kernel_rfl) 27 #[.int .u8 0, .int .u8 0, .int .u8 0, .int .u8 0, .int .u8 0, .int .u8 0, .int .u8 0, .int .u8 0, .int .u8 0, .int .u8 0, .int .u8 0, .int .u8 0, .int .u8 0, .int .i64 0, .int .i64 0, .int .i64 0, .int .i64 0] PB1.out HC.out (by as_aux_lemma => kernel_rfl) (one_cells _) ?_
    refine hKq.out _ _ ((setRow_other _ _ _ _ (Nat.ne_of_lt (Nat.lt_succ_self _))).trans PA1.out) (fun hHeld2 => ?_)
    clear hKq Kq hHeld
    have hHeld := hHeld2
    clear hHeld2
    simp only [Act.put, List.setIfInBounds_toArray, List.set_cons_zero, List.set_cons_succ]
    refine wpAnyH_ready (rs := [4]) (by kernel_rfl) (by simp) ?_
    refine AllReadyH.cons (i := 4) (rs := []) rfl ?_ AllReadyH.nil
    intro Kq hKq
    simp only [List.getElem_toArray, List.getElem_cons_succ, List.getElem_cons_zero]
    rw [if_pos (by rfl)]
    have hsz : (wd1.setRow (w.heap.size + 1) (againK k now).cells).heap.size = wd1.heap.size := size_setRow _ _ _
    refine wp_op_value (.slice (some ⟨(wd1.setRow (w.heap.size + 1) (againK k now).cells).heap.size, 0, none⟩) 1 1) ((wd1.setRow (w.heap.size + 1) (againK k now).cells).alloc (.cells #[.slice (some ⟨mb1, 0, none⟩) 5 5] 45)) (by as_aux_lemma => kernel_rfl) ?_
    refine hKq.out _ _ (row_alloc ((setRow_other _ _ _ _ (Nat.ne_of_lt (Nat.lt_succ_self _))).trans PA1.out)) (fun hHeld2 => ?_)
    clear hKq Kq hHeld
    have hHeld := hHeld2
    clear hHeld2
    simp only [Act.put, List.setIfInBounds_toArray, List.set_cons_zero, List.set_cons_succ]
    rw [hsz]
    refine wpAnyH_take (i := 6) (v := .slice (some ⟨wd1.heap.size, 0, none⟩) 1 1) rfl (by kernel_rfl) (by kernel_rfl) (by kernel_rfl) (fun _ _ _ h => h) (Or.inl ⟨by rfl, by intro w hSw; clear hHeld hSw; go_simp; (try rfl)⟩) (by assumption) ?_
    simp only [Act.put, List.setIfInBounds_toArray, List.set_cons_zero, List.set_cons_succ, List.getElem_toArray, List.getElem_cons_succ, List.getElem_cons_zero]
    refine wpAnyH_take (i := 7) (v := .int .i64 0) rfl (by kernel_rfl) (by kernel_rfl) (by kernel_rfl) (fun _ _ _ h => h) (Or.inl ⟨by rfl, by intro w hSw; clear hHeld hSw; go_simp; (try rfl)⟩) (by assumption) ?_
    simp only [Act.put, List.setIfInBounds_toArray, List.set_cons_zero, List.set_cons_succ, List.getElem_toArray, List.getElem_cons_succ, List.getElem_cons_zero]
    clear hHeld
    refine wpAnyH_done (by kernel_rfl) ?_ _
    go_wp2
    refine bodyPost_ret (results_row3 rfl _ _ (w.heap.size + 1) 27 (againK k now).cells (0, 0) _ rfl (row_alloc (setRow_heap _ _ _ _ _ _ PB1.out)) Try.underlying27 rfl HC.out) rfl ?_
    exact ⟨_, rfl, (out_lit (heap_alloc_at hsz) hz1 ((HM1.out.setRow (Nat.lt_succ_self _)).below ((Below.refl _ _).alloc (Nat.le_refl _) _))).mono (by omega), below_more (below_setRow' HBB1.out (Nat.le_succ _) _) _⟩
theorem rtick_any (k : Lk) (hB : k.By) (hz : 0 ≤ k.st) (now : Int) (w : World) : Calls Try.prog 29 #[.agg k.cells, .int .i64 now] w (RetR w (pTick k now)) := by
  rcases chk_two k with h | h
  · by_cases ht : tinB now = true
    · obtain ⟨n0, n1⟩ := tin_in ht
      have hv := chk_val h
      by_cases hd : k.du = 0 ∨ now < k.du
      · rw [retR (show pTick k now = _ by rw [pTick, guard_ok h ht, if_pos hd])]
        by_cases hd0 : k.du = 0
        · exact rtick_idle k hB hz now h ht (by simpa using hd0) w
        · exact rtick_early k hB hz now h ht (by simpa using hd0) (by omega) w
      · have d0 : (k.du == 0) = false := by simp; omega
        have d1 : k.du ≤ now := by omega
        have hst : (1 ≤ k.st ∧ k.st ≤ 3) ∨ k.st = 5 := by
          have h0 := hv.st0; have h5 := hv.st5; have hl := hv.late
          omega
        by_cases h5 : k.st = 5
        · have hf : finK k = endK k := by have := hv.idle (.inr (.inr h5)); simp only [finK, endK, this]
          rw [retR (show pTick k now = _ by rw [pTick, guard_ok h ht, if_neg hd, if_pos h5, hf])]
          exact rtick_hold k hB hz now h ht d0 d1 h5 w
        · have h5' : (k.st == 5) = false := by simpa using h5
          have hw := hv.wait (by omega) (by omega)
          have h3 := hv.tr3
          by_cases ht3 : k.tr = 3
          · rw [retR (show pTick k now = _ by rw [pTick, guard_ok h ht, if_neg hd, if_neg h5, if_pos ht3])]
            exact rtick_close k hB hz now h ht d0 d1 h5' ht3 w
          · by_cases hs3 : k.st = 3
            · rw [retR (show pTick k now = _ by rw [pTick, guard_ok h ht, if_neg hd, if_neg h5, if_neg ht3, if_pos hs3])]
              exact rtick_conf k hB hz now h ht hv d0 d1 (by omega) hs3 w
            · rw [retR (show pTick k now = _ by rw [pTick, guard_ok h ht, if_neg hd, if_neg h5, if_neg ht3, if_neg hs3])]
              exact rtick_again k hB hz now h ht hv d0 d1 (by omega) h5' (by simpa using hs3) w
    · rw [retR (show pTick k now = _ by rw [pTick, guard_arg h ht, errR])]
      exact rtick_arg k hB hz now h (by simpa using ht) w
  · rw [retR (show pTick k now = _ by rw [pTick, guard_bad h, errR])]
    exact rtick_bad k hB hz now h w
end Go.Proofs.Ytmighkgjbohieaa
