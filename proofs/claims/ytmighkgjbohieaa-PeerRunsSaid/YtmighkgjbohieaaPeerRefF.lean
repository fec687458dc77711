/-
  The reference's Start where all is well.
-/
import Derived.Test.YtmighkgjbohieaaPeerRefE
set_option linter.unusedVariables false
set_option linter.unusedSimpArgs false
namespace Go.Proofs.Ytmighkgjbohieaa
open Go.ChangeShapes Go.WideShapes Go.ChangeAt Go.RowKit Go.Great

theorem MsgAt.setRow {w : World} {base g : Nat} {cs : Array Value} {x : Value} {m : List Int} (h : MsgAt w base x m) (hg : g < base) : MsgAt (w.setRow g cs) base x m := by
  obtain ⟨b, rfl, h1, h2⟩ := h
  exact ⟨b, rfl, h1, (setRow_other _ _ _ _ (by omega)).trans h2⟩
set_option maxRecDepth 100000 in
set_option maxHeartbeats 4000000 in
theorem rstart_ok (k : Lk) (hB : k.By) (hz : 0 ≤ k.st) (now : Int) (h : k.chk = 0) (ht : tinB now = true) (hs : k.st = 0) (w : World) : Calls Try.prog 27 #[.agg k.cells, .int .i64 now] w (Ret3 w (waitK k 1 now) [msgOf 1 k.id 0] 0) := by
  obtain ⟨n0, n1⟩ := tin_in ht
  obtain ⟨i0, i1, _, _⟩ := (chk_val h).toIn
  obtain ⟨q0, q1⟩ := fr_rows2 w (.cells k.cells 27) (.cells #[.int .u8 0, .int .u8 0, .int .u8 0, .int .u8 0, .int .u8 0, .int .u8 0, .int .u8 0, .int .u8 0, .int .u8 0, .int .u8 0, .int .u8 0, .int .u8 0, .int .u8 0, .int .i64 0, .int .i64 0, .int .i64 0, .int .i64 0] 27)
  have Q0 := Lib.hid q0
  have Q1 := Lib.hid q1
  clear q0 q1
  have HI := Lib.hid (link_info2 k)
  have HW := Lib.hid (link_info2 (waitK k 1 now))
  have hbv : beforeI k now = 0 := by simp only [beforeI, h, ht]; rfl
  go_enter Try.func27, Try.ntmps27
  go_wp2_with (with_reducible refine wpList_load_row rfl 27 (.tmp 2) rfl w.heap.size rfl 27 k.cells (0, 0) _ Q0.out Try.underlying27 rfl HI.out ?_)
  refine (before_any k hB hz now _).mono ?_
  rintro e w1 ⟨rfl, hb⟩
  have P0 := Lib.hid (row_below hb Q0.out)
  have P1 := Lib.hid (row_below hb Q1.out)
  have HB := Lib.hid (below_step (below_more (below_more (Below.refl w.heap.size w) (.cells k.cells 27)) (.cells #[.int .u8 0, .int .u8 0, .int .u8 0, .int .u8 0, .int .u8 0, .int .u8 0, .int .u8 0, .int .u8 0, .int .u8 0, .int .u8 0, .int .u8 0, .int .u8 0, .int .u8 0, .int .i64 0, .int .i64 0, .int .i64 0, .int .i64 0] 27)) hb)
  clear hb Q0 Q1
  simp only [hbv]
  have s12 : w1.cell? ⟨w.heap.size, 12, none⟩ = some (.int .u8 0) := by rw [cell_of_row _ _ _ _ _ _ P0.out, lk_st k, hs]
  go_upto_region 6 with fail
  clear s12
  refine wp_region_held_drew (S := fun w' => w'.heap[w.heap.size]? = some (.cells k.cells 27)) (by kernel_rfl) (P0.out) (fun hHeld => ?_)
  refine wpAnyH_take (i := 0) (v := .agg k.cells) rfl (by kernel_rfl) (by kernel_rfl) (by kernel_rfl) (fun _ _ _ h => h) (yields_sub (by rfl) 27 _ rfl (w.heap.size) 0 (by rfl) k.cells _ (fun w' h' => range_row h') Try.underlying27 rfl HI.out) (by assumption) ?_
  simp only [Act.put, List.setIfInBounds_toArray, List.set_cons_zero, List.set_cons_succ, List.getElem_toArray, List.getElem_cons_succ, List.getElem_cons_zero]
  refine wpAnyH_take (i := 1) (v := .int .i64 now) rfl (by kernel_rfl) (by kernel_rfl) (by kernel_rfl) (fun _ _ _ h => h) (Or.inl ⟨by rfl, by intro w hSw; clear hHeld hSw; go_simp; (try rfl)⟩) (by assumption) ?_
  simp only [Act.put, List.setIfInBounds_toArray, List.set_cons_zero, List.set_cons_succ, List.getElem_toArray, List.getElem_cons_succ, List.getElem_cons_zero]
  refine wpAnyH_take (i := 3) (v := .pointer (some ⟨w.heap.size, 13, none⟩)) rfl (by kernel_rfl) (by kernel_rfl) (by kernel_rfl) (fun _ _ _ h => h) (Or.inl ⟨by rfl, by intro w hSw; clear hHeld hSw; go_simp; (try rfl)⟩) (by assumption) ?_
  simp only [Act.put, List.setIfInBounds_toArray, List.set_cons_zero, List.set_cons_succ, List.getElem_toArray, List.getElem_cons_succ, List.getElem_cons_zero]
  refine wpAnyH_take (i := 4) (v := .int .i64 k.id) rfl (by kernel_rfl) (by kernel_rfl) (by kernel_rfl) (fun _ _ _ h => h) (Or.inl ⟨by rfl, by intro w2 hSw; have tq : w2.cell? ⟨w.heap.size, 13, none⟩ = some (.int .i64 k.id) := (cell_of_row _ _ _ _ _ _ hSw).trans rfl; clear hHeld hSw; go_simp⟩) (by assumption) ?_
  simp only [Act.put, List.setIfInBounds_toArray, List.set_cons_zero, List.set_cons_succ, List.getElem_toArray, List.getElem_cons_succ, List.getElem_cons_zero]
  refine wpAnyH_ready (rs := [2]) (by kernel_rfl) (by simp) ?_
  refine AllReadyH.cons (i := 2) (rs := []) rfl ?_ AllReadyH.nil
  intro Kq hKq
  simp only [List.getElem_toArray, List.getElem_cons_succ, List.getElem_cons_zero]
  rw [if_pos (by rfl)]
  refine wp_call_fn 45 #[.agg k.cells, .int .u8 1, .int .i64 now] (_) (by as_aux_lemma => kernel_rfl) (ref_waiting k 1 now n0 n1 _) ?_
  rintro e w2 ⟨rfl, hb2⟩
  refine ⟨.agg (waitK k 1 now).cells, rfl, ?_⟩
  have X0 := Lib.hid (row_below hb2 P0.out)
  have X1 := Lib.hid (row_below hb2 P1.out)
  have HB2 := Lib.hid (HB.out.drew.trans (hb2.mono HB.out.size))
  refine hKq.out _ _ (X0.out) (fun hHeld2 => ?_)
  clear hKq Kq hHeld
  have hHeld := hHeld2
  clear hHeld2
  simp only [Act.put, List.setIfInBounds_toArray, List.set_cons_zero, List.set_cons_succ]
  refine wpAnyH_ready (rs := [5]) (by kernel_rfl) (by simp) ?_
  refine AllReadyH.cons (i := 5) (rs := []) rfl ?_ AllReadyH.nil
  intro Kq hKq
  simp only [List.getElem_toArray, List.getElem_cons_succ, List.getElem_cons_zero]
  rw [if_pos (by rfl)]
  refine wp_call_fn 34 #[.int .i64 k.id] (_) (by as_aux_lemma => kernel_rfl) (open_any k.id (by omega) i1 _) ?_
  rintro e w3 ⟨mv, rfl, hM, hb3⟩
  obtain ⟨mb, rfl⟩ := msg_form hM rfl
  refine ⟨.slice (some ⟨mb, 0, none⟩) 5 5, rfl, ?_⟩
  have Y0 := Lib.hid (row_below hb3 X0.out)
  have Y1 := Lib.hid (row_below hb3 X1.out)
  have HB3 := Lib.hid (below_step HB2.out hb3)
  have hz3 : w.heap.size + 1 < w2.heap.size := row_lt X1.out
  have hz4 : w.heap.size + 1 < w3.heap.size := row_lt Y1.out
  have HM := Lib.hid (MsgAt.less hM (show w.heap.size + 2 ≤ _ from hz3))
  clear hM
  refine hKq.out _ _ (Y0.out) (fun hHeld2 => ?_)
  clear hKq Kq hHeld
  have hHeld := hHeld2
  clear hHeld2
  simp only [Act.put, List.setIfInBounds_toArray, List.set_cons_zero, List.set_cons_succ]
  refine wpAnyH_ready (rs := [6, 7]) (by kernel_rfl) (by simp) ?_
  refine AllReadyH.cons (i := 6) (rs := [7]) rfl ?_ (AllReadyH.cons (i := 7) (rs := []) rfl ?_ AllReadyH.nil)
  · intro Kq hKq
    simp only [List.getElem_toArray, List.getElem_cons_succ, List.getElem_cons_zero]
    rw [if_pos (by rfl)]
    refine wp_op_value (.slice (some ⟨w3.heap.size, 0, none⟩) 1 1) (w3.alloc (.cells #[.slice (some ⟨mb, 0, none⟩) 5 5] 45)) (by as_aux_lemma => kernel_rfl) ?_
    refine hKq.out _ _ (row_alloc Y0.out) (fun hHeld2 => ?_)
    clear hKq Kq hHeld
    have hHeld := hHeld2
    clear hHeld2
    simp only [Act.put, List.setIfInBounds_toArray, List.set_cons_zero, List.set_cons_succ]
    refine wpAnyH_ready (rs := [7]) (by kernel_rfl) (by simp) ?_
    refine AllReadyH.cons (i := 7) (rs := []) rfl ?_ AllReadyH.nil
    intro Kq hKq
    simp only [List.getElem_toArray, List.getElem_cons_succ, List.getElem_cons_zero]
    rw [if_pos (by rfl)]
    refine wp_store_row 27 (.tmp 4) (.tmp 24) (by rfl) (w.heap.size + 1) (waitK k 1 now).cells (by as_aux_lemma => kernel_rfl) (by as_aux_lemma => kernel_rfl) 27 #[.int .u8 0, .int .u8 0, .int .u8 0, .int .u8 0, .int .u8 0, .int .u8 0, .int .u8 0, .int .u8 0, .int .u8 0, .int .u8 0, .int .u8 0, .int .u8 0, .int .u8 0, .int .i64 0, .int .i64 0, .int .i64 0, .int .i64 0] (row_alloc Y1.out) HW.out (by as_aux_lemma => kernel_rfl) (one_cells _) ?_
    refine hKq.out _ _ ((setRow_other _ _ _ _ (Nat.ne_of_lt (Nat.lt_succ_self _))).trans (row_alloc Y0.out)) (fun hHeld2 => ?_)
    clear hKq Kq hHeld
    have hHeld := hHeld2
    clear hHeld2
    simp only [Act.put, List.setIfInBounds_toArray, List.set_cons_zero, List.set_cons_succ]
    refine wpAnyH_take (i := 8) (v := .slice (some ⟨w3.heap.size, 0, none⟩) 1 1) rfl (by kernel_rfl) (by kernel_rfl) (by kernel_rfl) (fun _ _ _ h => h) (Or.inl ⟨by rfl, by intro w hSw; clear hHeld hSw; go_simp; (try rfl)⟩) (by assumption) ?_
    simp only [Act.put, List.setIfInBounds_toArray, List.set_cons_zero, List.set_cons_succ, List.getElem_toArray, List.getElem_cons_succ, List.getElem_cons_zero]
    refine wpAnyH_take (i := 9) (v := .int .i64 0) rfl (by kernel_rfl) (by kernel_rfl) (by kernel_rfl) (fun _ _ _ h => h) (Or.inl ⟨by rfl, by intro w hSw; clear hHeld hSw; go_simp; (try rfl)⟩) (by assumption) ?_
    simp only [Act.put, List.setIfInBounds_toArray, List.set_cons_zero, List.set_cons_succ, List.getElem_toArray, List.getElem_cons_succ, List.getElem_cons_zero]
    clear hHeld
    refine wpAnyH_done (by kernel_rfl) ?_ _
    go_wp2
    refine bodyPost_ret (results_row3 rfl _ _ (w.heap.size + 1) 27 (waitK k 1 now).cells (0, 0) _ rfl (setRow_heap _ _ _ _ _ _ (row_alloc Y1.out)) Try.underlying27 rfl HW.out) rfl ?_
    exact ⟨_, rfl, ((out_lit (heap_alloc_new w3 _) hz4 (HM.out.below ((Below.refl _ _).alloc (Nat.le_refl _) _))).setRow _ (Nat.lt_succ_self _) _).mono (by omega), below_setRow' (below_more HB3.out _) (Nat.le_succ _) _⟩
  · intro Kq hKq
    simp only [List.getElem_toArray, List.getElem_cons_succ, List.getElem_cons_zero]
    rw [if_pos (by rfl)]
    refine wp_store_row 27 (.tmp 4) (.tmp 24) (by rfl) (w.heap.size + 1) (waitK k 1 now).cells (by as_aux_lemma => kernel_rfl) (by as_aux_lemma => kernel_rfl) 27 #[.int .u8 0, .int .u8 0, .int .u8 0, .int .u8 0, .int .u8 0, .int .u8 0, .int .u8 0, .int .u8 0, .int .u8 0, .int .u8 0, .int .u8 0, .int .u8 0, .int .u8 0, .int .i64 0, .int .i64 0, .int .i64 0, .int .i64 0] Y1.out HW.out (by as_aux_lemma => kernel_rfl) (one_cells _) ?_
    refine hKq.out _ _ ((setRow_other _ _ _ _ (Nat.ne_of_lt (Nat.lt_succ_self _))).trans Y0.out) (fun hHeld2 => ?_)
    clear hKq Kq hHeld
    have hHeld := hHeld2
    clear hHeld2
    simp only [Act.put, List.setIfInBounds_toArray, List.set_cons_zero, List.set_cons_succ]
    refine wpAnyH_ready (rs := [6]) (by kernel_rfl) (by simp) ?_
    refine AllReadyH.cons (i := 6) (rs := []) rfl ?_ AllReadyH.nil
    intro Kq hKq
    simp only [List.getElem_toArray, List.getElem_cons_succ, List.getElem_cons_zero]
    rw [if_pos (by rfl)]
    have hsz : (w3.setRow (w.heap.size + 1) (waitK k 1 now).cells).heap.size = w3.heap.size := size_setRow _ _ _
    refine wp_op_value (.slice (some ⟨(w3.setRow (w.heap.size + 1) (waitK k 1 now).cells).heap.size, 0, none⟩) 1 1) ((w3.setRow (w.heap.size + 1) (waitK k 1 now).cells).alloc (.cells #[.slice (some ⟨mb, 0, none⟩) 5 5] 45)) (by as_aux_lemma => kernel_rfl) ?_
    refine hKq.out _ _ (row_alloc ((setRow_other _ _ _ _ (Nat.ne_of_lt (Nat.lt_succ_self _))).trans Y0.out)) (fun hHeld2 => ?_)
    clear hKq Kq hHeld
    have hHeld := hHeld2
    clear hHeld2
    simp only [Act.put, List.setIfInBounds_toArray, List.set_cons_zero, List.set_cons_succ]
    rw [hsz]
    refine wpAnyH_take (i := 8) (v := .slice (some ⟨w3.heap.size, 0, none⟩) 1 1) rfl (by kernel_rfl) (by kernel_rfl) (by kernel_rfl) (fun _ _ _ h => h) (Or.inl ⟨by rfl, by intro w hSw; clear hHeld hSw; go_simp; (try rfl)⟩) (by assumption) ?_
    simp only [Act.put, List.setIfInBounds_toArray, List.set_cons_zero, List.set_cons_succ, List.getElem_toArray, List.getElem_cons_succ, List.getElem_cons_zero]
    refine wpAnyH_take (i := 9) (v := .int .i64 0) rfl (by kernel_rfl) (by kernel_rfl) (by kernel_rfl) (fun _ _ _ h => h) (Or.inl ⟨by rfl, by intro w hSw; clear hHeld hSw; go_simp; (try rfl)⟩) (by assumption) ?_
    simp only [Act.put, List.setIfInBounds_toArray, List.set_cons_zero, List.set_cons_succ, List.getElem_toArray, List.getElem_cons_succ, List.getElem_cons_zero]
    clear hHeld
    refine wpAnyH_done (by kernel_rfl) ?_ _
    go_wp2
    refine bodyPost_ret (results_row3 rfl _ _ (w.heap.size + 1) 27 (waitK k 1 now).cells (0, 0) _ rfl (row_alloc (setRow_heap _ _ _ _ _ _ Y1.out)) Try.underlying27 rfl HW.out) rfl ?_
    exact ⟨_, rfl, (out_lit (heap_alloc_at hsz) hz4 ((HM.out.setRow (Nat.lt_succ_self _)).below ((Below.refl _ _).alloc (Nat.le_refl _) _))).mono (by omega), below_more (below_setRow' HB3.out (Nat.le_succ _) _) _⟩
end Go.Proofs.Ytmighkgjbohieaa
