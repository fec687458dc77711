/-
  The reference's opened.
-/
import Derived.Test.YtmighkgjbohieaaPeerRefJ
set_option linter.unusedVariables false
set_option linter.unusedSimpArgs false
namespace Go.Proofs.Ytmighkgjbohieaa
open Go.ChangeShapes Go.WideShapes Go.ChangeAt Go.RowKit Go.Great

theorem out_lit2 {w : World} {base b : Nat} {x y : Value} {m n : List Int} (h : w.heap[b]? = some (.cells #[x, y] 45)) (hb : base ≤ b) (hx : MsgAt w base x m) (hy : MsgAt w base y n) : OutAt w base (.slice (some ⟨b, 0, none⟩) 2 2) [m, n] := by
  refine ⟨[x, y], ⟨rfl, .inr ⟨b, 2, #[x, y], rfl, hb, h, Nat.le_refl _, by unfold maxLen; decide, rfl, rfl⟩⟩, fun i m' hi => ?_⟩
  match i, hi with
  | 0, hi => cases hi; exact ⟨x, rfl, hx⟩
  | 1, hi => cases hi; exact ⟨y, rfl, hy⟩
  | i + 2, hi => simp at hi
set_option maxRecDepth 100000 in
set_option maxHeartbeats 4000000 in
theorem ropened_idle (k : Lk) (hv : k.Val) (a now : Int) (a0 : 1 ≤ a) (a1 : a ≤ 65535) (n0 : 0 ≤ now) (n1 : now ≤ 1099511627776) (hs : k.st = 0) (w : World) : Calls Try.prog 49 #[.agg k.cells, .int .i64 a, .int .i64 now] w (ShutR w (waitK (otK k a) 2 now) [msgOf 1 k.id 0, msgOf 2 k.id a]) := by
  obtain ⟨i2, i1, j0, j1⟩ := hv.toIn
  obtain ⟨q0, q1⟩ := fr_rows2 w (.cells k.cells 27) (.cells #[.int .u8 0, .int .u8 0, .int .u8 0, .int .u8 0, .int .u8 0, .int .u8 0, .int .u8 0, .int .u8 0, .int .u8 0, .int .u8 0, .int .u8 0, .int .u8 0, .int .u8 0, .int .i64 0, .int .i64 0, .int .i64 0, .int .i64 0] 27)
  have Q0 := Lib.hid q0
  have Q1 := Lib.hid q1
  have cf : ∀ o, ((w.alloc (.cells k.cells 27)).alloc (.cells #[.int .u8 0, .int .u8 0, .int .u8 0, .int .u8 0, .int .u8 0, .int .u8 0, .int .u8 0, .int .u8 0, .int .u8 0, .int .u8 0, .int .u8 0, .int .u8 0, .int .u8 0, .int .i64 0, .int .i64 0, .int .i64 0, .int .i64 0] 27)).frozen? ⟨w.heap.size, o, none⟩ = false := fun o => frozen_of_row _ _ _ _ _ q0
  have s12 : ((w.alloc (.cells k.cells 27)).alloc (.cells #[.int .u8 0, .int .u8 0, .int .u8 0, .int .u8 0, .int .u8 0, .int .u8 0, .int .u8 0, .int .u8 0, .int .u8 0, .int .u8 0, .int .u8 0, .int .u8 0, .int .u8 0, .int .i64 0, .int .i64 0, .int .i64 0, .int .i64 0] 27)).cell? ⟨w.heap.size, 12, none⟩ = some (.int .u8 k.st) := (cell_of_row _ _ _ _ _ _ q0).trans rfl
  have s14 : ((w.alloc (.cells k.cells 27)).alloc (.cells #[.int .u8 0, .int .u8 0, .int .u8 0, .int .u8 0, .int .u8 0, .int .u8 0, .int .u8 0, .int .u8 0, .int .u8 0, .int .u8 0, .int .u8 0, .int .u8 0, .int .u8 0, .int .i64 0, .int .i64 0, .int .i64 0, .int .i64 0] 27)).cell? ⟨w.heap.size, 14, none⟩ = some (.int .i64 k.ot) := (cell_of_row _ _ _ _ _ _ q0).trans rfl
  clear q0 q1
  have HI := Lib.hid (link_info2 k)
  have HC := Lib.hid (link_info2 (waitK (otK k a) 2 now))
  have HB := Lib.hid (below_more (below_more (Below.refl w.heap.size w) (.cells k.cells 27)) (.cells #[.int .u8 0, .int .u8 0, .int .u8 0, .int .u8 0, .int .u8 0, .int .u8 0, .int .u8 0, .int .u8 0, .int .u8 0, .int .u8 0, .int .u8 0, .int .u8 0, .int .u8 0, .int .i64 0, .int .i64 0, .int .i64 0, .int .i64 0] 27))
  have HO := Lib.hid (link_info2 (otK k a))
  have RK := Lib.hid (show ((w.alloc (.cells (k.cells.setIfInBounds 14 (.int .i64 a)) 27)).alloc (.cells #[.int .u8 0, .int .u8 0, .int .u8 0, .int .u8 0, .int .u8 0, .int .u8 0, .int .u8 0, .int .u8 0, .int .u8 0, .int .u8 0, .int .u8 0, .int .u8 0, .int .u8 0, .int .i64 0, .int .i64 0, .int .i64 0, .int .i64 0] 27)).heap[w.heap.size]? = some (.cells (otK k a).cells 27) from (fr_rows2 w (.cells (k.cells.setIfInBounds 14 (.int .i64 a)) 27) (.cells #[.int .u8 0, .int .u8 0, .int .u8 0, .int .u8 0, .int .u8 0, .int .u8 0, .int .u8 0, .int .u8 0, .int .u8 0, .int .u8 0, .int .u8 0, .int .u8 0, .int .u8 0, .int .i64 0, .int .i64 0, .int .i64 0, .int .i64 0] 27)).1)
  have RZ := Lib.hid (show ((w.alloc (.cells (k.cells.setIfInBounds 14 (.int .i64 a)) 27)).alloc (.cells #[.int .u8 0, .int .u8 0, .int .u8 0, .int .u8 0, .int .u8 0, .int .u8 0, .int .u8 0, .int .u8 0, .int .u8 0, .int .u8 0, .int .u8 0, .int .u8 0, .int .u8 0, .int .i64 0, .int .i64 0, .int .i64 0, .int .i64 0] 27)).heap[w.heap.size + 1]? = some (.cells #[.int .u8 0, .int .u8 0, .int .u8 0, .int .u8 0, .int .u8 0, .int .u8 0, .int .u8 0, .int .u8 0, .int .u8 0, .int .u8 0, .int .u8 0, .int .u8 0, .int .u8 0, .int .i64 0, .int .i64 0, .int .i64 0, .int .i64 0] 27) from (fr_rows2 w (.cells (k.cells.setIfInBounds 14 (.int .i64 a)) 27) (.cells #[.int .u8 0, .int .u8 0, .int .u8 0, .int .u8 0, .int .u8 0, .int .u8 0, .int .u8 0, .int .u8 0, .int .u8 0, .int .u8 0, .int .u8 0, .int .u8 0, .int .u8 0, .int .i64 0, .int .i64 0, .int .i64 0, .int .i64 0] 27)).2)
  have HBX := Lib.hid (show Below w.heap.size w ((w.alloc (.cells (k.cells.setIfInBounds 14 (.int .i64 a)) 27)).alloc (.cells #[.int .u8 0, .int .u8 0, .int .u8 0, .int .u8 0, .int .u8 0, .int .u8 0, .int .u8 0, .int .u8 0, .int .u8 0, .int .u8 0, .int .u8 0, .int .u8 0, .int .u8 0, .int .i64 0, .int .i64 0, .int .i64 0, .int .i64 0] 27)) from below_more (below_more (Below.refl _ _) _) _)
  rw [hs] at s12
  go_enter Try.func49, Try.ntmps49
  go_upto_region 4 with fail
  clear s12 s14 cf
  refine wp_region_held_drew (S := fun w' => w'.heap[w.heap.size]? = some (.cells (otK k a).cells 27)) (by kernel_rfl) (RK.out) (fun hHeld => ?_)
  refine wpAnyH_take (i := 0) (v := .agg (otK k a).cells) rfl (by kernel_rfl) (by kernel_rfl) (by kernel_rfl) (fun _ _ _ h => h) (yields_sub (by rfl) 27 _ rfl (w.heap.size) 0 (by rfl) (otK k a).cells _ (fun w' h' => range_row h') Try.underlying27 rfl HO.out) (by assumption) ?_
  simp only [Act.put, List.setIfInBounds_toArray, List.set_cons_zero, List.set_cons_succ, List.getElem_toArray, List.getElem_cons_succ, List.getElem_cons_zero]
  refine wpAnyH_take (i := 1) (v := .int .i64 now) rfl (by kernel_rfl) (by kernel_rfl) (by kernel_rfl) (fun _ _ _ h => h) (Or.inl ⟨by rfl, by intro w hSw; clear hHeld hSw; go_simp; (try rfl)⟩) (by assumption) ?_
  simp only [Act.put, List.setIfInBounds_toArray, List.set_cons_zero, List.set_cons_succ, List.getElem_toArray, List.getElem_cons_succ, List.getElem_cons_zero]
  refine wpAnyH_take (i := 3) (v := .pointer (some ⟨w.heap.size, 13, none⟩)) rfl (by kernel_rfl) (by kernel_rfl) (by kernel_rfl) (fun _ _ _ h => h) (Or.inl ⟨by rfl, by intro w hSw; clear hHeld hSw; go_simp; (try rfl)⟩) (by assumption) ?_
  simp only [Act.put, List.setIfInBounds_toArray, List.set_cons_zero, List.set_cons_succ, List.getElem_toArray, List.getElem_cons_succ, List.getElem_cons_zero]
  refine wpAnyH_take (i := 4) (v := .int .i64 k.id) rfl (by kernel_rfl) (by kernel_rfl) (by kernel_rfl) (fun _ _ _ h => h) (Or.inl ⟨by rfl, by intro w2 hSw; have tq : w2.cell? ⟨w.heap.size, 13, none⟩ = some (.int .i64 k.id) := (cell_of_row _ _ _ _ _ _ hSw).trans rfl; clear hHeld hSw; go_simp⟩) (by assumption) ?_
  simp only [Act.put, List.setIfInBounds_toArray, List.set_cons_zero, List.set_cons_succ, List.getElem_toArray, List.getElem_cons_succ, List.getElem_cons_zero]
  refine wpAnyH_take (i := 6) (v := .pointer (some ⟨w.heap.size, 13, none⟩)) rfl (by kernel_rfl) (by kernel_rfl) (by kernel_rfl) (fun _ _ _ h => h) (Or.inl ⟨by rfl, by intro w hSw; clear hHeld hSw; go_simp; (try rfl)⟩) (by assumption) ?_
  simp only [Act.put, List.setIfInBounds_toArray, List.set_cons_zero, List.set_cons_succ, List.getElem_toArray, List.getElem_cons_succ, List.getElem_cons_zero]
  refine wpAnyH_take (i := 7) (v := .int .i64 k.id) rfl (by kernel_rfl) (by kernel_rfl) (by kernel_rfl) (fun _ _ _ h => h) (Or.inl ⟨by rfl, by intro w2 hSw; have tq : w2.cell? ⟨w.heap.size, 13, none⟩ = some (.int .i64 k.id) := (cell_of_row _ _ _ _ _ _ hSw).trans rfl; clear hHeld hSw; go_simp⟩) (by assumption) ?_
  simp only [Act.put, List.setIfInBounds_toArray, List.set_cons_zero, List.set_cons_succ, List.getElem_toArray, List.getElem_cons_succ, List.getElem_cons_zero]
  refine wpAnyH_take (i := 8) (v := .int .i64 a) rfl (by kernel_rfl) (by kernel_rfl) (by kernel_rfl) (fun _ _ _ h => h) (Or.inl ⟨by rfl, by intro w hSw; clear hHeld hSw; go_simp; (try rfl)⟩) (by assumption) ?_
  simp only [Act.put, List.setIfInBounds_toArray, List.set_cons_zero, List.set_cons_succ, List.getElem_toArray, List.getElem_cons_succ, List.getElem_cons_zero]
  refine wpAnyH_ready (rs := [2]) (by kernel_rfl) (by simp) ?_
  refine AllReadyH.cons (i := 2) (rs := []) rfl ?_ AllReadyH.nil
  intro Kq hKq
  simp only [List.getElem_toArray, List.getElem_cons_succ, List.getElem_cons_zero]
  rw [if_pos (by rfl)]
  refine wp_call_fn 45 #[.agg (otK k a).cells, .int .u8 2, .int .i64 now] (_) (by as_aux_lemma => kernel_rfl) (ref_waiting (otK k a) 2 now n0 n1 _) ?_
  rintro e wd1 ⟨rfl, hb⟩
  refine ⟨.agg (waitK (otK k a) 2 now).cells, rfl, ?_⟩
  have PA1 := Lib.hid (row_below hb RK.out)
  have PB1 := Lib.hid (row_below hb RZ.out)
  have hz1 : w.heap.size + 1 < wd1.heap.size := row_lt PB1.out
  have HBB1 := Lib.hid (HBX.out.drew.trans (hb.mono HBX.out.size))
  clear hb
  refine hKq.out _ _ (PA1.out) (fun hHeld2 => ?_)
  clear hKq Kq hHeld
  have hHeld := hHeld2
  clear hHeld2
  simp only [Act.put, List.setIfInBounds_toArray, List.set_cons_zero, List.set_cons_succ]
  refine wpAnyH_ready (rs := [5]) (by kernel_rfl) (by simp) ?_
  refine AllReadyH.cons (i := 5) (rs := []) rfl ?_ AllReadyH.nil
  intro Kq hKq
  simp only [List.getElem_toArray, List.getElem_cons_succ, List.getElem_cons_zero]
  rw [if_pos (by rfl)]
  refine wp_call_fn 34 #[.int .i64 k.id] (_) (by as_aux_lemma => kernel_rfl) (open_any k.id (by omega) i1 _) ?_
  rintro e wd2 ⟨mv, rfl, hM, hb⟩
  obtain ⟨mb2, rfl⟩ := msg_form hM rfl
  refine ⟨.slice (some ⟨mb2, 0, none⟩) 5 5, rfl, ?_⟩
  have PA2 := Lib.hid (row_below hb PA1.out)
  have PB2 := Lib.hid (row_below hb PB1.out)
  have hz2 : w.heap.size + 1 < wd2.heap.size := row_lt PB2.out
  have HM2 := Lib.hid (MsgAt.less hM (show w.heap.size + 2 ≤ _ from row_lt PB1.out))
  clear hM
  have HBB2 := Lib.hid (below_step HBB1.out hb)
  clear hb
  refine hKq.out _ _ (PA2.out) (fun hHeld2 => ?_)
  clear hKq Kq hHeld
  have hHeld := hHeld2
  clear hHeld2
  simp only [Act.put, List.setIfInBounds_toArray, List.set_cons_zero, List.set_cons_succ]
  refine wpAnyH_ready (rs := [9]) (by kernel_rfl) (by simp) ?_
  refine AllReadyH.cons (i := 9) (rs := []) rfl ?_ AllReadyH.nil
  intro Kq hKq
  simp only [List.getElem_toArray, List.getElem_cons_succ, List.getElem_cons_zero]
  rw [if_pos (by rfl)]
  refine wp_call_fn 33 #[.int .i64 k.id, .int .i64 a] (_) (by as_aux_lemma => kernel_rfl) (confirm_any k.id a (by omega) i1 (by omega) a1 _) ?_
  rintro e wd3 ⟨mv, rfl, hM, hb⟩
  obtain ⟨mb3, rfl⟩ := msg_form hM rfl
  refine ⟨.slice (some ⟨mb3, 0, none⟩) 5 5, rfl, ?_⟩
  have PA3 := Lib.hid (row_below hb PA2.out)
  have PB3 := Lib.hid (row_below hb PB2.out)
  have HM2x3 := Lib.hid (HM2.out.below hb)
  have hz3 : w.heap.size + 1 < wd3.heap.size := row_lt PB3.out
  have HM3 := Lib.hid (MsgAt.less hM (show w.heap.size + 2 ≤ _ from row_lt PB2.out))
  clear hM
  have HBB3 := Lib.hid (below_step HBB2.out hb)
  clear hb
  refine hKq.out _ _ (PA3.out) (fun hHeld2 => ?_)
  clear hKq Kq hHeld
  have hHeld := hHeld2
  clear hHeld2
  simp only [Act.put, List.setIfInBounds_toArray, List.set_cons_zero, List.set_cons_succ]
  refine wpAnyH_ready (rs := [10, 11]) (by kernel_rfl) (by simp) ?_
  refine AllReadyH.cons (i := 10) (rs := [11]) rfl ?_ (AllReadyH.cons (i := 11) (rs := []) rfl ?_ AllReadyH.nil)
  · intro Kq hKq
    simp only [List.getElem_toArray, List.getElem_cons_succ, List.getElem_cons_zero]
    rw [if_pos (by rfl)]
    refine wp_op_value (.slice (some ⟨wd3.heap.size, 0, none⟩) 2 2) (wd3.alloc (.cells #[.slice (some ⟨mb2, 0, none⟩) 5 5, .slice (some ⟨mb3, 0, none⟩) 5 5] 45)) (by as_aux_lemma => kernel_rfl) ?_
    refine hKq.out _ _ (row_alloc PA3.out) (fun hHeld2 => ?_)
    clear hKq Kq hHeld
    have hHeld := hHeld2
    clear hHeld2
    simp only [Act.put, List.setIfInBounds_toArray, List.set_cons_zero, List.set_cons_succ]
    refine wpAnyH_ready (rs := [11]) (by kernel_rfl) (by simp) ?_
    refine AllReadyH.cons (i := 11) (rs := []) rfl ?_ AllReadyH.nil
    intro Kq hKq
    simp only [List.getElem_toArray, List.getElem_cons_succ, List.getElem_cons_zero]
    rw [if_pos (by rfl)]
    refine wp_store_row 27 (.tmp 6) (.tmp 18) (by rfl) (w.heap.size + 1) (waitK (otK k a) 2 now).cells (by as_aux_lemma => kernel_rfl) (by as_aux_lemma => kernel_rfl) 27 #[.int .u8 0, .int .u8 0, .int .u8 0, .int .u8 0, .int .u8 0, .int .u8 0, .int .u8 0, .int .u8 0, .int .u8 0, .int .u8 0, .int .u8 0, .int .u8 0, .int .u8 0, .int .i64 0, .int .i64 0, .int .i64 0, .int .i64 0] (row_alloc PB3.out) HC.out (by as_aux_lemma => kernel_rfl) (one_cells _) ?_
    refine hKq.out _ _ ((setRow_other _ _ _ _ (Nat.ne_of_lt (Nat.lt_succ_self _))).trans (row_alloc PA3.out)) (fun hHeld2 => ?_)
    clear hKq Kq hHeld
    have hHeld := hHeld2
    clear hHeld2
    simp only [Act.put, List.setIfInBounds_toArray, List.set_cons_zero, List.set_cons_succ]
    refine wpAnyH_take (i := 12) (v := .slice (some ⟨wd3.heap.size, 0, none⟩) 2 2) rfl (by kernel_rfl) (by kernel_rfl) (by kernel_rfl) (fun _ _ _ h => h) (Or.inl ⟨by rfl, by intro w hSw; clear hHeld hSw; go_simp; (try rfl)⟩) (by assumption) ?_
    simp only [Act.put, List.setIfInBounds_toArray, List.set_cons_zero, List.set_cons_succ, List.getElem_toArray, List.getElem_cons_succ, List.getElem_cons_zero]
    clear hHeld
    refine wpAnyH_done (by kernel_rfl) ?_ _
    go_wp2
    refine bodyPost_ret (results_row2 rfl _ _ (w.heap.size + 1) 27 (waitK (otK k a) 2 now).cells (0, 0) _ rfl (setRow_heap _ _ _ _ _ _ (row_alloc PB3.out)) Try.underlying27 rfl HC.out) rfl ?_
    exact ⟨_, rfl, ((out_lit2 (heap_alloc_new wd3 _) hz3 (HM2x3.out.below ((Below.refl _ _).alloc (Nat.le_refl _) _)) (HM3.out.below ((Below.refl _ _).alloc (Nat.le_refl _) _))).setRow _ (Nat.lt_succ_self _) _).mono (by omega), below_setRow' (below_more HBB3.out _) (Nat.le_succ _) _⟩
  · intro Kq hKq
    simp only [List.getElem_toArray, List.getElem_cons_succ, List.getElem_cons_zero]
    rw [if_pos (by rfl)]
    refine wp_store_row 27 (.tmp 6) (.tmp 18) (by rfl) (w.heap.size + 1) (waitK (otK k a) 2 now).cells (by as_aux_lemma => kernel_rfl) (by as_aux_lemma => kernel_rfl) 27 #[.int .u8 0, .int .u8 0, .int .u8 0, .int .u8 0, .int .u8 0, .int .u8 0, .int .u8 0, .int .u8 0, .int .u8 0, .int .u8 0, .int .u8 0, .int .u8 0, .int .u8 0, .int .i64 0, .int .i64 0, .int .i64 0, .int .i64 0] PB3.out HC.out (by as_aux_lemma => kernel_rfl) (one_cells _) ?_
    refine hKq.out _ _ ((setRow_other _ _ _ _ (Nat.ne_of_lt (Nat.lt_succ_self _))).trans PA3.out) (fun hHeld2 => ?_)
    clear hKq Kq hHeld
    have hHeld := hHeld2
    clear hHeld2
    simp only [Act.put, List.setIfInBounds_toArray, List.set_cons_zero, List.set_cons_succ]
    refine wpAnyH_ready (rs := [10]) (by kernel_rfl) (by simp) ?_
    refine AllReadyH.cons (i := 10) (rs := []) rfl ?_ AllReadyH.nil
    intro Kq hKq
    simp only [List.getElem_toArray, List.getElem_cons_succ, List.getElem_cons_zero]
    rw [if_pos (by rfl)]
    have hsz : (wd3.setRow (w.heap.size + 1) (waitK (otK k a) 2 now).cells).heap.size = wd3.heap.size := size_setRow _ _ _
    refine wp_op_value (.slice (some ⟨(wd3.setRow (w.heap.size + 1) (waitK (otK k a) 2 now).cells).heap.size, 0, none⟩) 2 2) ((wd3.setRow (w.heap.size + 1) (waitK (otK k a) 2 now).cells).alloc (.cells #[.slice (some ⟨mb2, 0, none⟩) 5 5, .slice (some ⟨mb3, 0, none⟩) 5 5] 45)) (by as_aux_lemma => kernel_rfl) ?_
    refine hKq.out _ _ (row_alloc ((setRow_other _ _ _ _ (Nat.ne_of_lt (Nat.lt_succ_self _))).trans PA3.out)) (fun hHeld2 => ?_)
    clear hKq Kq hHeld
    have hHeld := hHeld2
    clear hHeld2
    simp only [Act.put, List.setIfInBounds_toArray, List.set_cons_zero, List.set_cons_succ]
    rw [hsz]
    refine wpAnyH_take (i := 12) (v := .slice (some ⟨wd3.heap.size, 0, none⟩) 2 2) rfl (by kernel_rfl) (by kernel_rfl) (by kernel_rfl) (fun _ _ _ h => h) (Or.inl ⟨by rfl, by intro w hSw; clear hHeld hSw; go_simp; (try rfl)⟩) (by assumption) ?_
    simp only [Act.put, List.setIfInBounds_toArray, List.set_cons_zero, List.set_cons_succ, List.getElem_toArray, List.getElem_cons_succ, List.getElem_cons_zero]
    clear hHeld
    refine wpAnyH_done (by kernel_rfl) ?_ _
    go_wp2
    refine bodyPost_ret (results_row2 rfl _ _ (w.heap.size + 1) 27 (waitK (otK k a) 2 now).cells (0, 0) _ rfl (row_alloc (setRow_heap _ _ _ _ _ _ PB3.out)) Try.underlying27 rfl HC.out) rfl ?_
    exact ⟨_, rfl, (out_lit2 (heap_alloc_at hsz) hz3 ((HM2x3.out.setRow (Nat.lt_succ_self _)).below ((Below.refl _ _).alloc (Nat.le_refl _) _)) ((HM3.out.setRow (Nat.lt_succ_self _)).below ((Below.refl _ _).alloc (Nat.le_refl _) _))).mono (by omega), below_more (below_setRow' HBB3.out (Nat.le_succ _) _) _⟩
set_option maxRecDepth 100000 in
set_option maxHeartbeats 4000000 in
theorem ropened_sent (k : Lk) (hv : k.Val) (a now : Int) (a0 : 1 ≤ a) (a1 : a ≤ 65535) (n0 : 0 ≤ now) (n1 : now ≤ 1099511627776) (hs : k.st = 1) (w : World) : Calls Try.prog 49 #[.agg k.cells, .int .i64 a, .int .i64 now] w (ShutR w (waitK (otK k a) 2 now) [msgOf 2 k.id a]) := by
  obtain ⟨i2, i1, j0, j1⟩ := hv.toIn
  obtain ⟨q0, q1⟩ := fr_rows2 w (.cells k.cells 27) (.cells #[.int .u8 0, .int .u8 0, .int .u8 0, .int .u8 0, .int .u8 0, .int .u8 0, .int .u8 0, .int .u8 0, .int .u8 0, .int .u8 0, .int .u8 0, .int .u8 0, .int .u8 0, .int .i64 0, .int .i64 0, .int .i64 0, .int .i64 0] 27)
  have Q0 := Lib.hid q0
  have Q1 := Lib.hid q1
  have cf : ∀ o, ((w.alloc (.cells k.cells 27)).alloc (.cells #[.int .u8 0, .int .u8 0, .int .u8 0, .int .u8 0, .int .u8 0, .int .u8 0, .int .u8 0, .int .u8 0, .int .u8 0, .int .u8 0, .int .u8 0, .int .u8 0, .int .u8 0, .int .i64 0, .int .i64 0, .int .i64 0, .int .i64 0] 27)).frozen? ⟨w.heap.size, o, none⟩ = false := fun o => frozen_of_row _ _ _ _ _ q0
  have s12 : ((w.alloc (.cells k.cells 27)).alloc (.cells #[.int .u8 0, .int .u8 0, .int .u8 0, .int .u8 0, .int .u8 0, .int .u8 0, .int .u8 0, .int .u8 0, .int .u8 0, .int .u8 0, .int .u8 0, .int .u8 0, .int .u8 0, .int .i64 0, .int .i64 0, .int .i64 0, .int .i64 0] 27)).cell? ⟨w.heap.size, 12, none⟩ = some (.int .u8 k.st) := (cell_of_row _ _ _ _ _ _ q0).trans rfl
  have s14 : ((w.alloc (.cells k.cells 27)).alloc (.cells #[.int .u8 0, .int .u8 0, .int .u8 0, .int .u8 0, .int .u8 0, .int .u8 0, .int .u8 0, .int .u8 0, .int .u8 0, .int .u8 0, .int .u8 0, .int .u8 0, .int .u8 0, .int .i64 0, .int .i64 0, .int .i64 0, .int .i64 0] 27)).cell? ⟨w.heap.size, 14, none⟩ = some (.int .i64 k.ot) := (cell_of_row _ _ _ _ _ _ q0).trans rfl
  clear q0 q1
  have HI := Lib.hid (link_info2 k)
  have HC := Lib.hid (link_info2 (waitK (otK k a) 2 now))
  have HB := Lib.hid (below_more (below_more (Below.refl w.heap.size w) (.cells k.cells 27)) (.cells #[.int .u8 0, .int .u8 0, .int .u8 0, .int .u8 0, .int .u8 0, .int .u8 0, .int .u8 0, .int .u8 0, .int .u8 0, .int .u8 0, .int .u8 0, .int .u8 0, .int .u8 0, .int .i64 0, .int .i64 0, .int .i64 0, .int .i64 0] 27))
  have HO := Lib.hid (link_info2 (otK k a))
  have RK := Lib.hid (show ((w.alloc (.cells (k.cells.setIfInBounds 14 (.int .i64 a)) 27)).alloc (.cells #[.int .u8 0, .int .u8 0, .int .u8 0, .int .u8 0, .int .u8 0, .int .u8 0, .int .u8 0, .int .u8 0, .int .u8 0, .int .u8 0, .int .u8 0, .int .u8 0, .int .u8 0, .int .i64 0, .int .i64 0, .int .i64 0, .int .i64 0] 27)).heap[w.heap.size]? = some (.cells (otK k a).cells 27) from (fr_rows2 w (.cells (k.cells.setIfInBounds 14 (.int .i64 a)) 27) (.cells #[.int .u8 0, .int .u8 0, .int .u8 0, .int .u8 0, .int .u8 0, .int .u8 0, .int .u8 0, .int .u8 0, .int .u8 0, .int .u8 0, .int .u8 0, .int .u8 0, .int .u8 0, .int .i64 0, .int .i64 0, .int .i64 0, .int .i64 0] 27)).1)
  have RZ := Lib.hid (show ((w.alloc (.cells (k.cells.setIfInBounds 14 (.int .i64 a)) 27)).alloc (.cells #[.int .u8 0, .int .u8 0, .int .u8 0, .int .u8 0, .int .u8 0, .int .u8 0, .int .u8 0, .int .u8 0, .int .u8 0, .int .u8 0, .int .u8 0, .int .u8 0, .int .u8 0, .int .i64 0, .int .i64 0, .int .i64 0, .int .i64 0] 27)).heap[w.heap.size + 1]? = some (.cells #[.int .u8 0, .int .u8 0, .int .u8 0, .int .u8 0, .int .u8 0, .int .u8 0, .int .u8 0, .int .u8 0, .int .u8 0, .int .u8 0, .int .u8 0, .int .u8 0, .int .u8 0, .int .i64 0, .int .i64 0, .int .i64 0, .int .i64 0] 27) from (fr_rows2 w (.cells (k.cells.setIfInBounds 14 (.int .i64 a)) 27) (.cells #[.int .u8 0, .int .u8 0, .int .u8 0, .int .u8 0, .int .u8 0, .int .u8 0, .int .u8 0, .int .u8 0, .int .u8 0, .int .u8 0, .int .u8 0, .int .u8 0, .int .u8 0, .int .i64 0, .int .i64 0, .int .i64 0, .int .i64 0] 27)).2)
  have HBX := Lib.hid (show Below w.heap.size w ((w.alloc (.cells (k.cells.setIfInBounds 14 (.int .i64 a)) 27)).alloc (.cells #[.int .u8 0, .int .u8 0, .int .u8 0, .int .u8 0, .int .u8 0, .int .u8 0, .int .u8 0, .int .u8 0, .int .u8 0, .int .u8 0, .int .u8 0, .int .u8 0, .int .u8 0, .int .i64 0, .int .i64 0, .int .i64 0, .int .i64 0] 27)) from below_more (below_more (Below.refl _ _) _) _)
  rw [hs] at s12
  go_enter Try.func49, Try.ntmps49
  go_upto_region 7 with fail
  clear s12 s14 cf
  refine wp_region_held_drew (S := fun w' => w'.heap[w.heap.size]? = some (.cells (otK k a).cells 27)) (by kernel_rfl) (RK.out) (fun hHeld => ?_)
  refine wpAnyH_take (i := 0) (v := .agg (otK k a).cells) rfl (by kernel_rfl) (by kernel_rfl) (by kernel_rfl) (fun _ _ _ h => h) (yields_sub (by rfl) 27 _ rfl (w.heap.size) 0 (by rfl) (otK k a).cells _ (fun w' h' => range_row h') Try.underlying27 rfl HO.out) (by assumption) ?_
  simp only [Act.put, List.setIfInBounds_toArray, List.set_cons_zero, List.set_cons_succ, List.getElem_toArray, List.getElem_cons_succ, List.getElem_cons_zero]
  refine wpAnyH_take (i := 1) (v := .int .i64 now) rfl (by kernel_rfl) (by kernel_rfl) (by kernel_rfl) (fun _ _ _ h => h) (Or.inl ⟨by rfl, by intro w hSw; clear hHeld hSw; go_simp; (try rfl)⟩) (by assumption) ?_
  simp only [Act.put, List.setIfInBounds_toArray, List.set_cons_zero, List.set_cons_succ, List.getElem_toArray, List.getElem_cons_succ, List.getElem_cons_zero]
  refine wpAnyH_take (i := 3) (v := .pointer (some ⟨w.heap.size, 13, none⟩)) rfl (by kernel_rfl) (by kernel_rfl) (by kernel_rfl) (fun _ _ _ h => h) (Or.inl ⟨by rfl, by intro w hSw; clear hHeld hSw; go_simp; (try rfl)⟩) (by assumption) ?_
  simp only [Act.put, List.setIfInBounds_toArray, List.set_cons_zero, List.set_cons_succ, List.getElem_toArray, List.getElem_cons_succ, List.getElem_cons_zero]
  refine wpAnyH_take (i := 4) (v := .int .i64 k.id) rfl (by kernel_rfl) (by kernel_rfl) (by kernel_rfl) (fun _ _ _ h => h) (Or.inl ⟨by rfl, by intro w2 hSw; have tq : w2.cell? ⟨w.heap.size, 13, none⟩ = some (.int .i64 k.id) := (cell_of_row _ _ _ _ _ _ hSw).trans rfl; clear hHeld hSw; go_simp⟩) (by assumption) ?_
  simp only [Act.put, List.setIfInBounds_toArray, List.set_cons_zero, List.set_cons_succ, List.getElem_toArray, List.getElem_cons_succ, List.getElem_cons_zero]
  refine wpAnyH_take (i := 5) (v := .int .i64 a) rfl (by kernel_rfl) (by kernel_rfl) (by kernel_rfl) (fun _ _ _ h => h) (Or.inl ⟨by rfl, by intro w hSw; clear hHeld hSw; go_simp; (try rfl)⟩) (by assumption) ?_
  simp only [Act.put, List.setIfInBounds_toArray, List.set_cons_zero, List.set_cons_succ, List.getElem_toArray, List.getElem_cons_succ, List.getElem_cons_zero]
  refine wpAnyH_ready (rs := [2]) (by kernel_rfl) (by simp) ?_
  refine AllReadyH.cons (i := 2) (rs := []) rfl ?_ AllReadyH.nil
  intro Kq hKq
  simp only [List.getElem_toArray, List.getElem_cons_succ, List.getElem_cons_zero]
  rw [if_pos (by rfl)]
  refine wp_call_fn 45 #[.agg (otK k a).cells, .int .u8 2, .int .i64 now] (_) (by as_aux_lemma => kernel_rfl) (ref_waiting (otK k a) 2 now n0 n1 _) ?_
  rintro e wd1 ⟨rfl, hb⟩
  refine ⟨.agg (waitK (otK k a) 2 now).cells, rfl, ?_⟩
  have PA1 := Lib.hid (row_below hb RK.out)
  have PB1 := Lib.hid (row_below hb RZ.out)
  have hz1 : w.heap.size + 1 < wd1.heap.size := row_lt PB1.out
  have HBB1 := Lib.hid (HBX.out.drew.trans (hb.mono HBX.out.size))
  clear hb
  refine hKq.out _ _ (PA1.out) (fun hHeld2 => ?_)
  clear hKq Kq hHeld
  have hHeld := hHeld2
  clear hHeld2
  simp only [Act.put, List.setIfInBounds_toArray, List.set_cons_zero, List.set_cons_succ]
  refine wpAnyH_ready (rs := [6]) (by kernel_rfl) (by simp) ?_
  refine AllReadyH.cons (i := 6) (rs := []) rfl ?_ AllReadyH.nil
  intro Kq hKq
  simp only [List.getElem_toArray, List.getElem_cons_succ, List.getElem_cons_zero]
  rw [if_pos (by rfl)]
  refine wp_call_fn 33 #[.int .i64 k.id, .int .i64 a] (_) (by as_aux_lemma => kernel_rfl) (confirm_any k.id a (by omega) i1 (by omega) a1 _) ?_
  rintro e wd2 ⟨mv, rfl, hM, hb⟩
  obtain ⟨mb2, rfl⟩ := msg_form hM rfl
  refine ⟨.slice (some ⟨mb2, 0, none⟩) 5 5, rfl, ?_⟩
  have PA2 := Lib.hid (row_below hb PA1.out)
  have PB2 := Lib.hid (row_below hb PB1.out)
  have hz2 : w.heap.size + 1 < wd2.heap.size := row_lt PB2.out
  have HM2 := Lib.hid (MsgAt.less hM (show w.heap.size + 2 ≤ _ from row_lt PB1.out))
  clear hM
  have HBB2 := Lib.hid (below_step HBB1.out hb)
  clear hb
  refine hKq.out _ _ (PA2.out) (fun hHeld2 => ?_)
  clear hKq Kq hHeld
  have hHeld := hHeld2
  clear hHeld2
  simp only [Act.put, List.setIfInBounds_toArray, List.set_cons_zero, List.set_cons_succ]
  refine wpAnyH_ready (rs := [7, 8]) (by kernel_rfl) (by simp) ?_
  refine AllReadyH.cons (i := 7) (rs := [8]) rfl ?_ (AllReadyH.cons (i := 8) (rs := []) rfl ?_ AllReadyH.nil)
  · intro Kq hKq
    simp only [List.getElem_toArray, List.getElem_cons_succ, List.getElem_cons_zero]
    rw [if_pos (by rfl)]
    refine wp_op_value (.slice (some ⟨wd2.heap.size, 0, none⟩) 1 1) (wd2.alloc (.cells #[.slice (some ⟨mb2, 0, none⟩) 5 5] 45)) (by as_aux_lemma => kernel_rfl) ?_
    refine hKq.out _ _ (row_alloc PA2.out) (fun hHeld2 => ?_)
    clear hKq Kq hHeld
    have hHeld := hHeld2
    clear hHeld2
    simp only [Act.put, List.setIfInBounds_toArray, List.set_cons_zero, List.set_cons_succ]
    refine wpAnyH_ready (rs := [8]) (by kernel_rfl) (by simp) ?_
    refine AllReadyH.cons (i := 8) (rs := []) rfl ?_ AllReadyH.nil
    intro Kq hKq
    simp only [List.getElem_toArray, List.getElem_cons_succ, List.getElem_cons_zero]
    rw [if_pos (by rfl)]
    refine wp_store_row 27 (.tmp 6) (.tmp 33) (by rfl) (w.heap.size + 1) (waitK (otK k a) 2 now).cells (by as_aux_lemma => kernel_rfl) (by as_aux_lemma => kernel_rfl) 27 #[.int .u8 0, .int .u8 0, .int .u8 0, .int .u8 0, .int .u8 0, .int .u8 0, .int .u8 0, .int .u8 0, .int .u8 0, .int .u8 0, .int .u8 0, .int .u8 0, .int .u8 0, .int .i64 0, .int .i64 0, .int .i64 0, .int .i64 0] (row_alloc PB2.out) HC.out (by as_aux_lemma => kernel_rfl) (one_cells _) ?_
    refine hKq.out _ _ ((setRow_other _ _ _ _ (Nat.ne_of_lt (Nat.lt_succ_self _))).trans (row_alloc PA2.out)) (fun hHeld2 => ?_)
    clear hKq Kq hHeld
    have hHeld := hHeld2
    clear hHeld2
    simp only [Act.put, List.setIfInBounds_toArray, List.set_cons_zero, List.set_cons_succ]
    refine wpAnyH_take (i := 9) (v := .slice (some ⟨wd2.heap.size, 0, none⟩) 1 1) rfl (by kernel_rfl) (by kernel_rfl) (by kernel_rfl) (fun _ _ _ h => h) (Or.inl ⟨by rfl, by intro w hSw; clear hHeld hSw; go_simp; (try rfl)⟩) (by assumption) ?_
    simp only [Act.put, List.setIfInBounds_toArray, List.set_cons_zero, List.set_cons_succ, List.getElem_toArray, List.getElem_cons_succ, List.getElem_cons_zero]
    clear hHeld
    refine wpAnyH_done (by kernel_rfl) ?_ _
    go_wp2
    refine bodyPost_ret (results_row2 rfl _ _ (w.heap.size + 1) 27 (waitK (otK k a) 2 now).cells (0, 0) _ rfl (setRow_heap _ _ _ _ _ _ (row_alloc PB2.out)) Try.underlying27 rfl HC.out) rfl ?_
    exact ⟨_, rfl, ((out_lit (heap_alloc_new wd2 _) hz2 (HM2.out.below ((Below.refl _ _).alloc (Nat.le_refl _) _))).setRow _ (Nat.lt_succ_self _) _).mono (by omega), below_setRow' (below_more HBB2.out _) (Nat.le_succ _) _⟩
  · intro Kq hKq
    simp only [List.getElem_toArray, List.getElem_cons_succ, List.getElem_cons_zero]
    rw [if_pos (by rfl)]
    refine wp_store_row 27 (.tmp 6) (.tmp 33) (by rfl) (w.heap.size + 1) (waitK (otK k a) 2 now).cells (by as_aux_lemma => kernel_rfl) (by as_aux_lemma => kernel_rfl) 27 #[.int .u8 0, .int .u8 0, .int .u8 0, .int .u8 0, .int .u8 0, .int .u8 0, .int .u8 0, .int .u8 0, .int .u8 0, .int .u8 0, .int .u8 0, .int .u8 0, .int .u8 0, .int .i64 0, .int .i64 0, .int .i64 0, .int .i64 0] PB2.out HC.out (by as_aux_lemma => kernel_rfl) (one_cells _) ?_
    refine hKq.out _ _ ((setRow_other _ _ _ _ (Nat.ne_of_lt (Nat.lt_succ_self _))).trans PA2.out) (fun hHeld2 => ?_)
    clear hKq Kq hHeld
    have hHeld := hHeld2
    clear hHeld2
    simp only [Act.put, List.setIfInBounds_toArray, List.set_cons_zero, List.set_cons_succ]
    refine wpAnyH_ready (rs := [7]) (by kernel_rfl) (by simp) ?_
    refine AllReadyH.cons (i := 7) (rs := []) rfl ?_ AllReadyH.nil
    intro Kq hKq
    simp only [List.getElem_toArray, List.getElem_cons_succ, List.getElem_cons_zero]
    rw [if_pos (by rfl)]
    have hsz : (wd2.setRow (w.heap.size + 1) (waitK (otK k a) 2 now).cells).heap.size = wd2.heap.size := size_setRow _ _ _
    refine wp_op_value (.slice (some ⟨(wd2.setRow (w.heap.size + 1) (waitK (otK k a) 2 now).cells).heap.size, 0, none⟩) 1 1) ((wd2.setRow (w.heap.size + 1) (waitK (otK k a) 2 now).cells).alloc (.cells #[.slice (some ⟨mb2, 0, none⟩) 5 5] 45)) (by as_aux_lemma => kernel_rfl) ?_
    refine hKq.out _ _ (row_alloc ((setRow_other _ _ _ _ (Nat.ne_of_lt (Nat.lt_succ_self _))).trans PA2.out)) (fun hHeld2 => ?_)
    clear hKq Kq hHeld
    have hHeld := hHeld2
    clear hHeld2
    simp only [Act.put, List.setIfInBounds_toArray, List.set_cons_zero, List.set_cons_succ]
    rw [hsz]
    refine wpAnyH_take (i := 9) (v := .slice (some ⟨wd2.heap.size, 0, none⟩) 1 1) rfl (by kernel_rfl) (by kernel_rfl) (by kernel_rfl) (fun _ _ _ h => h) (Or.inl ⟨by rfl, by intro w hSw; clear hHeld hSw; go_simp; (try rfl)⟩) (by assumption) ?_
    simp only [Act.put, List.setIfInBounds_toArray, List.set_cons_zero, List.set_cons_succ, List.getElem_toArray, List.getElem_cons_succ, List.getElem_cons_zero]
    clear hHeld
    refine wpAnyH_done (by kernel_rfl) ?_ _
    go_wp2
    refine bodyPost_ret (results_row2 rfl _ _ (w.heap.size + 1) 27 (waitK (otK k a) 2 now).cells (0, 0) _ rfl (row_alloc (setRow_heap _ _ _ _ _ _ PB2.out)) Try.underlying27 rfl HC.out) rfl ?_
    exact ⟨_, rfl, (out_lit (heap_alloc_at hsz) hz2 ((HM2.out.setRow (Nat.lt_succ_self _)).below ((Below.refl _ _).alloc (Nat.le_refl _) _))).mono (by omega), below_more (below_setRow' HBB2.out (Nat.le_succ _) _) _⟩
set_option maxRecDepth 100000 in
set_option maxHeartbeats 4000000 in
theorem ropened_diff (k : Lk) (hv : k.Val) (a now : Int) (a0 : 1 ≤ a) (a1 : a ≤ 65535) (n0 : 0 ≤ now) (n1 : now ≤ 1099511627776) (hs0 : (k.st == 0) = false) (hs1 : (k.st == 1) = false) (hd : (a == k.ot) = false) (w : World) : Calls Try.prog 49 #[.agg k.cells, .int .i64 a, .int .i64 now] w (ShutR w (clK k now) [msgOf 3 k.id k.ot]) := by
  obtain ⟨i2, i1, j0, j1⟩ := hv.toIn
  obtain ⟨q0, q1⟩ := fr_rows2 w (.cells k.cells 27) (.cells #[.int .u8 0, .int .u8 0, .int .u8 0, .int .u8 0, .int .u8 0, .int .u8 0, .int .u8 0, .int .u8 0, .int .u8 0, .int .u8 0, .int .u8 0, .int .u8 0, .int .u8 0, .int .i64 0, .int .i64 0, .int .i64 0, .int .i64 0] 27)
  have Q0 := Lib.hid q0
  have Q1 := Lib.hid q1
  have cf : ∀ o, ((w.alloc (.cells k.cells 27)).alloc (.cells #[.int .u8 0, .int .u8 0, .int .u8 0, .int .u8 0, .int .u8 0, .int .u8 0, .int .u8 0, .int .u8 0, .int .u8 0, .int .u8 0, .int .u8 0, .int .u8 0, .int .u8 0, .int .i64 0, .int .i64 0, .int .i64 0, .int .i64 0] 27)).frozen? ⟨w.heap.size, o, none⟩ = false := fun o => frozen_of_row _ _ _ _ _ q0
  have s12 : ((w.alloc (.cells k.cells 27)).alloc (.cells #[.int .u8 0, .int .u8 0, .int .u8 0, .int .u8 0, .int .u8 0, .int .u8 0, .int .u8 0, .int .u8 0, .int .u8 0, .int .u8 0, .int .u8 0, .int .u8 0, .int .u8 0, .int .i64 0, .int .i64 0, .int .i64 0, .int .i64 0] 27)).cell? ⟨w.heap.size, 12, none⟩ = some (.int .u8 k.st) := (cell_of_row _ _ _ _ _ _ q0).trans rfl
  have s14 : ((w.alloc (.cells k.cells 27)).alloc (.cells #[.int .u8 0, .int .u8 0, .int .u8 0, .int .u8 0, .int .u8 0, .int .u8 0, .int .u8 0, .int .u8 0, .int .u8 0, .int .u8 0, .int .u8 0, .int .u8 0, .int .u8 0, .int .i64 0, .int .i64 0, .int .i64 0, .int .i64 0] 27)).cell? ⟨w.heap.size, 14, none⟩ = some (.int .i64 k.ot) := (cell_of_row _ _ _ _ _ _ q0).trans rfl
  clear q0 q1
  have HI := Lib.hid (link_info2 k)
  have HC := Lib.hid (link_info2 (clK k now))
  have HB := Lib.hid (below_more (below_more (Below.refl w.heap.size w) (.cells k.cells 27)) (.cells #[.int .u8 0, .int .u8 0, .int .u8 0, .int .u8 0, .int .u8 0, .int .u8 0, .int .u8 0, .int .u8 0, .int .u8 0, .int .u8 0, .int .u8 0, .int .u8 0, .int .u8 0, .int .i64 0, .int .i64 0, .int .i64 0, .int .i64 0] 27))
  have hd' : (a != k.ot) = true := by simp only [bne, hd]; rfl
  go_enter Try.func49, Try.ntmps49
  go_wp2_with (with_reducible refine wpList_load_row rfl 27 (.tmp 3) rfl (w.heap.size) rfl 27 (k).cells (0, 0) _ Q0.out Try.underlying27 rfl HI.out ?_)
  refine (ref_shut k i2 i1 j0 j1 now n0 n1 _).mono ?_
  rintro e w3 ⟨v, rfl, hO, hb⟩
  have P5 := Lib.hid (row_below hb Q1.out)
  have HB3 := Lib.hid (below_step HB.out hb)
  have hz3 : w.heap.size + 1 < w3.heap.size := row_lt P5.out
  have HO := Lib.hid hO
  clear hb hO s12 s14 cf
  have P6 := Lib.hid (row_alloc (o := .cells (clK k now).cells 27) P5.out)
  have P7 := Lib.hid (heap_alloc_new w3 (.cells (clK k now).cells 27))
  go_wp2_with (first
    | ((with_reducible refine wpList_store_rowTo rfl 27 (.tmp 8) (.tmp 47) rfl rfl w3.heap.size (clK k now).cells ?_ ?_ 27 #[.int .u8 0, .int .u8 0, .int .u8 0, .int .u8 0, .int .u8 0, .int .u8 0, .int .u8 0, .int .u8 0, .int .u8 0, .int .u8 0, .int .u8 0, .int .u8 0, .int .u8 0, .int .i64 0, .int .i64 0, .int .i64 0, .int .i64 0] (heap_alloc_new _ _) HC.out rfl (one_cells _) ?_); (as_aux_lemma => kernel_rfl); (as_aux_lemma => kernel_rfl); rw [setRow_alloc])
    | (with_reducible refine wpList_load_row rfl 27 (.tmp 8) rfl (w3.heap.size) rfl 27 (clK k now).cells (0, 0) _ P7.out Try.underlying27 rfl HC.out ?_)
    | ((with_reducible refine wpList_store_rowTo rfl 27 (.tmp 6) (.tmp 49) rfl rfl (w.heap.size + 1) (clK k now).cells ?_ ?_ 27 #[.int .u8 0, .int .u8 0, .int .u8 0, .int .u8 0, .int .u8 0, .int .u8 0, .int .u8 0, .int .u8 0, .int .u8 0, .int .u8 0, .int .u8 0, .int .u8 0, .int .u8 0, .int .i64 0, .int .i64 0, .int .i64 0, .int .i64 0] P6.out HC.out rfl (one_cells _) ?_); (as_aux_lemma => kernel_rfl); (as_aux_lemma => kernel_rfl)))
  refine bodyPost_ret (results_row2 rfl _ _ (w.heap.size + 1) 27 (clK k now).cells (0, 0) _ rfl (setRow_heap _ _ _ _ _ _ P6.out) Try.underlying27 rfl HC.out) rfl ?_
  exact ⟨_, rfl, ((HO.out.below ((Below.refl _ _).alloc (Nat.le_refl _) _)).setRow _ (by simp only [World.size_alloc]; omega) _).mono HB.out.size, below_setRow' (below_more HB3.out _) (Nat.le_succ _) _⟩
set_option maxRecDepth 100000 in
set_option maxHeartbeats 4000000 in
theorem ropened_conf (k : Lk) (hv : k.Val) (a now : Int) (a0 : 1 ≤ a) (a1 : a ≤ 65535) (n0 : 0 ≤ now) (n1 : now ≤ 1099511627776) (hs : k.st = 3) (hd : (a == k.ot) = true) (w : World) : Calls Try.prog 49 #[.agg k.cells, .int .i64 a, .int .i64 now] w (ShutR w (upK k) [msgOf 2 k.id a]) := by
  obtain ⟨i2, i1, j0, j1⟩ := hv.toIn
  obtain ⟨q0, q1⟩ := fr_rows2 w (.cells k.cells 27) (.cells #[.int .u8 0, .int .u8 0, .int .u8 0, .int .u8 0, .int .u8 0, .int .u8 0, .int .u8 0, .int .u8 0, .int .u8 0, .int .u8 0, .int .u8 0, .int .u8 0, .int .u8 0, .int .i64 0, .int .i64 0, .int .i64 0, .int .i64 0] 27)
  have Q0 := Lib.hid q0
  have Q1 := Lib.hid q1
  have cf : ∀ o, ((w.alloc (.cells k.cells 27)).alloc (.cells #[.int .u8 0, .int .u8 0, .int .u8 0, .int .u8 0, .int .u8 0, .int .u8 0, .int .u8 0, .int .u8 0, .int .u8 0, .int .u8 0, .int .u8 0, .int .u8 0, .int .u8 0, .int .i64 0, .int .i64 0, .int .i64 0, .int .i64 0] 27)).frozen? ⟨w.heap.size, o, none⟩ = false := fun o => frozen_of_row _ _ _ _ _ q0
  have s12 : ((w.alloc (.cells k.cells 27)).alloc (.cells #[.int .u8 0, .int .u8 0, .int .u8 0, .int .u8 0, .int .u8 0, .int .u8 0, .int .u8 0, .int .u8 0, .int .u8 0, .int .u8 0, .int .u8 0, .int .u8 0, .int .u8 0, .int .i64 0, .int .i64 0, .int .i64 0, .int .i64 0] 27)).cell? ⟨w.heap.size, 12, none⟩ = some (.int .u8 k.st) := (cell_of_row _ _ _ _ _ _ q0).trans rfl
  have s14 : ((w.alloc (.cells k.cells 27)).alloc (.cells #[.int .u8 0, .int .u8 0, .int .u8 0, .int .u8 0, .int .u8 0, .int .u8 0, .int .u8 0, .int .u8 0, .int .u8 0, .int .u8 0, .int .u8 0, .int .u8 0, .int .u8 0, .int .i64 0, .int .i64 0, .int .i64 0, .int .i64 0] 27)).cell? ⟨w.heap.size, 14, none⟩ = some (.int .i64 k.ot) := (cell_of_row _ _ _ _ _ _ q0).trans rfl
  clear q0 q1
  have HI := Lib.hid (link_info2 k)
  have HC := Lib.hid (link_info2 (upK k))
  have HB := Lib.hid (below_more (below_more (Below.refl w.heap.size w) (.cells k.cells 27)) (.cells #[.int .u8 0, .int .u8 0, .int .u8 0, .int .u8 0, .int .u8 0, .int .u8 0, .int .u8 0, .int .u8 0, .int .u8 0, .int .u8 0, .int .u8 0, .int .u8 0, .int .u8 0, .int .i64 0, .int .i64 0, .int .i64 0, .int .i64 0] 27))
  have hd' : (a != k.ot) = false := by simp only [bne, hd]; rfl
  rw [hs] at s12
  go_enter Try.func49, Try.ntmps49
  go_wp2_with (with_reducible refine wpList_load_row rfl 27 (.tmp 3) rfl (w.heap.size) rfl 27 (k).cells (0, 0) _ Q0.out Try.underlying27 rfl HI.out ?_)
  refine (ref_up k _).mono ?_
  rintro e w2 ⟨rfl, hb⟩
  have P0 := Lib.hid (row_below hb Q0.out)
  have P1 := Lib.hid (row_below hb Q1.out)
  have HB2 := Lib.hid (below_step HB.out hb)
  clear hb s12 s14 cf
  have RK := Lib.hid (show (w2.setRow w.heap.size (upK k).cells).heap[w.heap.size]? = some (.cells (upK k).cells 27) from setRow_heap _ _ _ _ _ _ P0.out)
  have RZ := Lib.hid (show (w2.setRow w.heap.size (upK k).cells).heap[w.heap.size + 1]? = some (.cells #[.int .u8 0, .int .u8 0, .int .u8 0, .int .u8 0, .int .u8 0, .int .u8 0, .int .u8 0, .int .u8 0, .int .u8 0, .int .u8 0, .int .u8 0, .int .u8 0, .int .u8 0, .int .i64 0, .int .i64 0, .int .i64 0, .int .i64 0] 27) from (setRow_other _ _ _ _ (Nat.ne_of_gt (Nat.lt_succ_self _))).trans P1.out)
  have HBX := Lib.hid (show Below w.heap.size w (w2.setRow w.heap.size (upK k).cells) from below_setRow' HB2.out (Nat.le_refl _) _)
  go_upto_region 13 with ((with_reducible refine wpList_store_rowTo rfl 27 (.tmp 3) (.tmp 55) rfl rfl (w.heap.size) (upK k).cells ?_ ?_ 27 k.cells P0.out HC.out rfl (one_cells _) ?_); (as_aux_lemma => kernel_rfl); (as_aux_lemma => kernel_rfl))
  refine wp_region_held_drew (S := fun w' => w'.heap[w.heap.size]? = some (.cells (upK k).cells 27)) (by kernel_rfl) (RK.out) (fun hHeld => ?_)
  refine wpAnyH_take (i := 0) (v := .agg (upK k).cells) rfl (by kernel_rfl) (by kernel_rfl) (by kernel_rfl) (fun _ _ _ h => h) (yields_sub (by rfl) 27 _ rfl (w.heap.size) 0 (by rfl) (upK k).cells _ (fun w' h' => range_row h') Try.underlying27 rfl HC.out) (by assumption) ?_
  simp only [Act.put, List.setIfInBounds_toArray, List.set_cons_zero, List.set_cons_succ, List.getElem_toArray, List.getElem_cons_succ, List.getElem_cons_zero]
  refine wpAnyH_take (i := 1) (v := .pointer (some ⟨w.heap.size, 13, none⟩)) rfl (by kernel_rfl) (by kernel_rfl) (by kernel_rfl) (fun _ _ _ h => h) (Or.inl ⟨by rfl, by intro w hSw; clear hHeld hSw; go_simp; (try rfl)⟩) (by assumption) ?_
  simp only [Act.put, List.setIfInBounds_toArray, List.set_cons_zero, List.set_cons_succ, List.getElem_toArray, List.getElem_cons_succ, List.getElem_cons_zero]
  refine wpAnyH_take (i := 2) (v := .int .i64 k.id) rfl (by kernel_rfl) (by kernel_rfl) (by kernel_rfl) (fun _ _ _ h => h) (Or.inl ⟨by rfl, by intro w2 hSw; have tq : w2.cell? ⟨w.heap.size, 13, none⟩ = some (.int .i64 k.id) := (cell_of_row _ _ _ _ _ _ hSw).trans rfl; clear hHeld hSw; go_simp⟩) (by assumption) ?_
  simp only [Act.put, List.setIfInBounds_toArray, List.set_cons_zero, List.set_cons_succ, List.getElem_toArray, List.getElem_cons_succ, List.getElem_cons_zero]
  refine wpAnyH_take (i := 3) (v := .int .i64 a) rfl (by kernel_rfl) (by kernel_rfl) (by kernel_rfl) (fun _ _ _ h => h) (Or.inl ⟨by rfl, by intro w hSw; clear hHeld hSw; go_simp; (try rfl)⟩) (by assumption) ?_
  simp only [Act.put, List.setIfInBounds_toArray, List.set_cons_zero, List.set_cons_succ, List.getElem_toArray, List.getElem_cons_succ, List.getElem_cons_zero]
  refine wpAnyH_ready (rs := [4]) (by kernel_rfl) (by simp) ?_
  refine AllReadyH.cons (i := 4) (rs := []) rfl ?_ AllReadyH.nil
  intro Kq hKq
  simp only [List.getElem_toArray, List.getElem_cons_succ, List.getElem_cons_zero]
  rw [if_pos (by rfl)]
  refine wp_call_fn 33 #[.int .i64 k.id, .int .i64 a] (_) (by as_aux_lemma => kernel_rfl) (confirm_any k.id a (by omega) i1 (by omega) a1 _) ?_
  rintro e wd1 ⟨mv, rfl, hM, hb⟩
  obtain ⟨mb1, rfl⟩ := msg_form hM rfl
  refine ⟨.slice (some ⟨mb1, 0, none⟩) 5 5, rfl, ?_⟩
  have PA1 := Lib.hid (row_below hb RK.out)
  have PB1 := Lib.hid (row_below hb RZ.out)
  have hz1 : w.heap.size + 1 < wd1.heap.size := row_lt PB1.out
  have HM1 := Lib.hid (MsgAt.less hM (show w.heap.size + 2 ≤ _ from row_lt RZ.out))
  clear hM
  have HBB1 := Lib.hid (HBX.out.drew.trans (hb.mono HBX.out.size))
  clear hb
  refine hKq.out _ _ (PA1.out) (fun hHeld2 => ?_)
  clear hKq Kq hHeld
  have hHeld := hHeld2
  clear hHeld2
  simp only [Act.put, List.setIfInBounds_toArray, List.set_cons_zero, List.set_cons_succ]
  refine wpAnyH_ready (rs := [5, 6]) (by kernel_rfl) (by simp) ?_
  refine AllReadyH.cons (i := 5) (rs := [6]) rfl ?_ (AllReadyH.cons (i := 6) (rs := []) rfl ?_ AllReadyH.nil)
  · intro Kq hKq
    simp only [List.getElem_toArray, List.getElem_cons_succ, List.getElem_cons_zero]
    rw [if_pos (by rfl)]
    refine wp_op_value (.slice (some ⟨wd1.heap.size, 0, none⟩) 1 1) (wd1.alloc (.cells #[.slice (some ⟨mb1, 0, none⟩) 5 5] 45)) (by as_aux_lemma => kernel_rfl) ?_
    refine hKq.out _ _ (row_alloc PA1.out) (fun hHeld2 => ?_)
    clear hKq Kq hHeld
    have hHeld := hHeld2
    clear hHeld2
    simp only [Act.put, List.setIfInBounds_toArray, List.set_cons_zero, List.set_cons_succ]
    refine wpAnyH_ready (rs := [6]) (by kernel_rfl) (by simp) ?_
    refine AllReadyH.cons (i := 6) (rs := []) rfl ?_ AllReadyH.nil
    intro Kq hKq
    simp only [List.getElem_toArray, List.getElem_cons_succ, List.getElem_cons_zero]
    rw [if_pos (by rfl)]
    refine wp_store_row 27 (.tmp 6) (.tmp 56) (by rfl) (w.heap.size + 1) (upK k).cells (by as_aux_lemma => kernel_rfl) (by as_aux_lemma => kernel_rfl) 27 #[.int .u8 0, .int .u8 0, .int .u8 0, .int .u8 0, .int .u8 0, .int .u8 0, .int .u8 0, .int .u8 0, .int .u8 0, .int .u8 0, .int .u8 0, .int .u8 0, .int .u8 0, .int .i64 0, .int .i64 0, .int .i64 0, .int .i64 0] (row_alloc PB1.out) HC.out (by as_aux_lemma => kernel_rfl) (one_cells _) ?_
    refine hKq.out _ _ ((setRow_other _ _ _ _ (Nat.ne_of_lt (Nat.lt_succ_self _))).trans (row_alloc PA1.out)) (fun hHeld2 => ?_)
    clear hKq Kq hHeld
    have hHeld := hHeld2
    clear hHeld2
    simp only [Act.put, List.setIfInBounds_toArray, List.set_cons_zero, List.set_cons_succ]
    refine wpAnyH_take (i := 7) (v := .slice (some ⟨wd1.heap.size, 0, none⟩) 1 1) rfl (by kernel_rfl) (by kernel_rfl) (by kernel_rfl) (fun _ _ _ h => h) (Or.inl ⟨by rfl, by intro w hSw; clear hHeld hSw; go_simp; (try rfl)⟩) (by assumption) ?_
    simp only [Act.put, List.setIfInBounds_toArray, List.set_cons_zero, List.set_cons_succ, List.getElem_toArray, List.getElem_cons_succ, List.getElem_cons_zero]
    clear hHeld
    refine wpAnyH_done (by kernel_rfl) ?_ _
    go_wp2
    refine bodyPost_ret (results_row2 rfl _ _ (w.heap.size + 1) 27 (upK k).cells (0, 0) _ rfl (setRow_heap _ _ _ _ _ _ (row_alloc PB1.out)) Try.underlying27 rfl HC.out) rfl ?_
    exact ⟨_, rfl, ((out_lit (heap_alloc_new wd1 _) hz1 (HM1.out.below ((Below.refl _ _).alloc (Nat.le_refl _) _))).setRow _ (Nat.lt_succ_self _) _).mono (by omega), below_setRow' (below_more HBB1.out _) (Nat.le_succ _) _⟩
  · intro Kq hKq
    simp only [List.getElem_toArray, List.getElem_cons_succ, List.getElem_cons_zero]
    rw [if_pos (by rfl)]
    refine wp_store_row 27 (.tmp 6) (.tmp 56) (by rfl) (w.heap.size + 1) (upK k).cells (by as_aux_lemma => kernel_rfl) (by as_aux_lemma => kernel_rfl) 27 #[.int .u8 0, .int .u8 0, .int .u8 0, .int .u8 0, .int .u8 0, .int .u8 0, .int .u8 0, .int .u8 0, .int .u8 0, .int .u8 0, .int .u8 0, .int .u8 0, .int .u8 0, .int .i64 0, .int .i64 0, .int .i64 0, .int .i64 0] PB1.out HC.out (by as_aux_lemma => kernel_rfl) (one_cells _) ?_
    refine hKq.out _ _ ((setRow_other _ _ _ _ (Nat.ne_of_lt (Nat.lt_succ_self _))).trans PA1.out) (fun hHeld2 => ?_)
    clear hKq Kq hHeld
    have hHeld := hHeld2
    clear hHeld2
    simp only [Act.put, List.setIfInBounds_toArray, List.set_cons_zero, List.set_cons_succ]
    refine wpAnyH_ready (rs := [5]) (by kernel_rfl) (by simp) ?_
    refine AllReadyH.cons (i := 5) (rs := []) rfl ?_ AllReadyH.nil
    intro Kq hKq
    simp only [List.getElem_toArray, List.getElem_cons_succ, List.getElem_cons_zero]
    rw [if_pos (by rfl)]
    have hsz : (wd1.setRow (w.heap.size + 1) (upK k).cells).heap.size = wd1.heap.size := size_setRow _ _ _
    refine wp_op_value (.slice (some ⟨(wd1.setRow (w.heap.size + 1) (upK k).cells).heap.size, 0, none⟩) 1 1) ((wd1.setRow (w.heap.size + 1) (upK k).cells).alloc (.cells #[.slice (some ⟨mb1, 0, none⟩) 5 5] 45)) (by as_aux_lemma => kernel_rfl) ?_
    refine hKq.out _ _ (row_alloc ((setRow_other _ _ _ _ (Nat.ne_of_lt (Nat.lt_succ_self _))).trans PA1.out)) (fun hHeld2 => ?_)
    clear hKq Kq hHeld
    have hHeld := hHeld2
    clear hHeld2
    simp only [Act.put, List.setIfInBounds_toArray, List.set_cons_zero, List.set_cons_succ]
    rw [hsz]
    refine wpAnyH_take (i := 7) (v := .slice (some ⟨wd1.heap.size, 0, none⟩) 1 1) rfl (by kernel_rfl) (by kernel_rfl) (by kernel_rfl) (fun _ _ _ h => h) (Or.inl ⟨by rfl, by intro w hSw; clear hHeld hSw; go_simp; (try rfl)⟩) (by assumption) ?_
    simp only [Act.put, List.setIfInBounds_toArray, List.set_cons_zero, List.set_cons_succ, List.getElem_toArray, List.getElem_cons_succ, List.getElem_cons_zero]
    clear hHeld
    refine wpAnyH_done (by kernel_rfl) ?_ _
    go_wp2
    refine bodyPost_ret (results_row2 rfl _ _ (w.heap.size + 1) 27 (upK k).cells (0, 0) _ rfl (row_alloc (setRow_heap _ _ _ _ _ _ PB1.out)) Try.underlying27 rfl HC.out) rfl ?_
    exact ⟨_, rfl, (out_lit (heap_alloc_at hsz) hz1 ((HM1.out.setRow (Nat.lt_succ_self _)).below ((Below.refl _ _).alloc (Nat.le_refl _) _))).mono (by omega), below_more (below_setRow' HBB1.out (Nat.le_succ _) _) _⟩
set_option maxRecDepth 100000 in
set_option maxHeartbeats 4000000 in
theorem ropened_rest (k : Lk) (hv : k.Val) (a now : Int) (a0 : 1 ≤ a) (a1 : a ≤ 65535) (n0 : 0 ≤ now) (n1 : now ≤ 1099511627776) (hs0 : (k.st == 0) = false) (hs1 : (k.st == 1) = false) (hs3 : (k.st == 3) = false) (hd : (a == k.ot) = true) (w : World) : Calls Try.prog 49 #[.agg k.cells, .int .i64 a, .int .i64 now] w (ShutR w (k) [msgOf 2 k.id a]) := by
  obtain ⟨i2, i1, j0, j1⟩ := hv.toIn
  obtain ⟨q0, q1⟩ := fr_rows2 w (.cells k.cells 27) (.cells #[.int .u8 0, .int .u8 0, .int .u8 0, .int .u8 0, .int .u8 0, .int .u8 0, .int .u8 0, .int .u8 0, .int .u8 0, .int .u8 0, .int .u8 0, .int .u8 0, .int .u8 0, .int .i64 0, .int .i64 0, .int .i64 0, .int .i64 0] 27)
  have Q0 := Lib.hid q0
  have Q1 := Lib.hid q1
  have cf : ∀ o, ((w.alloc (.cells k.cells 27)).alloc (.cells #[.int .u8 0, .int .u8 0, .int .u8 0, .int .u8 0, .int .u8 0, .int .u8 0, .int .u8 0, .int .u8 0, .int .u8 0, .int .u8 0, .int .u8 0, .int .u8 0, .int .u8 0, .int .i64 0, .int .i64 0, .int .i64 0, .int .i64 0] 27)).frozen? ⟨w.heap.size, o, none⟩ = false := fun o => frozen_of_row _ _ _ _ _ q0
  have s12 : ((w.alloc (.cells k.cells 27)).alloc (.cells #[.int .u8 0, .int .u8 0, .int .u8 0, .int .u8 0, .int .u8 0, .int .u8 0, .int .u8 0, .int .u8 0, .int .u8 0, .int .u8 0, .int .u8 0, .int .u8 0, .int .u8 0, .int .i64 0, .int .i64 0, .int .i64 0, .int .i64 0] 27)).cell? ⟨w.heap.size, 12, none⟩ = some (.int .u8 k.st) := (cell_of_row _ _ _ _ _ _ q0).trans rfl
  have s14 : ((w.alloc (.cells k.cells 27)).alloc (.cells #[.int .u8 0, .int .u8 0, .int .u8 0, .int .u8 0, .int .u8 0, .int .u8 0, .int .u8 0, .int .u8 0, .int .u8 0, .int .u8 0, .int .u8 0, .int .u8 0, .int .u8 0, .int .i64 0, .int .i64 0, .int .i64 0, .int .i64 0] 27)).cell? ⟨w.heap.size, 14, none⟩ = some (.int .i64 k.ot) := (cell_of_row _ _ _ _ _ _ q0).trans rfl
  clear q0 q1
  have HI := Lib.hid (link_info2 k)
  have HC := Lib.hid (link_info2 (k))
  have HB := Lib.hid (below_more (below_more (Below.refl w.heap.size w) (.cells k.cells 27)) (.cells #[.int .u8 0, .int .u8 0, .int .u8 0, .int .u8 0, .int .u8 0, .int .u8 0, .int .u8 0, .int .u8 0, .int .u8 0, .int .u8 0, .int .u8 0, .int .u8 0, .int .u8 0, .int .i64 0, .int .i64 0, .int .i64 0, .int .i64 0] 27))
  have hd' : (a != k.ot) = false := by simp only [bne, hd]; rfl
  go_enter Try.func49, Try.ntmps49
  go_upto_region 13 with fail
  clear s12 s14 cf
  refine wp_region_held_drew (S := fun w' => w'.heap[w.heap.size]? = some (.cells k.cells 27)) (by kernel_rfl) (Q0.out) (fun hHeld => ?_)
  refine wpAnyH_take (i := 0) (v := .agg k.cells) rfl (by kernel_rfl) (by kernel_rfl) (by kernel_rfl) (fun _ _ _ h => h) (yields_sub (by rfl) 27 _ rfl (w.heap.size) 0 (by rfl) k.cells _ (fun w' h' => range_row h') Try.underlying27 rfl HI.out) (by assumption) ?_
  simp only [Act.put, List.setIfInBounds_toArray, List.set_cons_zero, List.set_cons_succ, List.getElem_toArray, List.getElem_cons_succ, List.getElem_cons_zero]
  refine wpAnyH_take (i := 1) (v := .pointer (some ⟨w.heap.size, 13, none⟩)) rfl (by kernel_rfl) (by kernel_rfl) (by kernel_rfl) (fun _ _ _ h => h) (Or.inl ⟨by rfl, by intro w hSw; clear hHeld hSw; go_simp; (try rfl)⟩) (by assumption) ?_
  simp only [Act.put, List.setIfInBounds_toArray, List.set_cons_zero, List.set_cons_succ, List.getElem_toArray, List.getElem_cons_succ, List.getElem_cons_zero]
  refine wpAnyH_take (i := 2) (v := .int .i64 k.id) rfl (by kernel_rfl) (by kernel_rfl) (by kernel_rfl) (fun _ _ _ h => h) (Or.inl ⟨by rfl, by intro w2 hSw; have tq : w2.cell? ⟨w.heap.size, 13, none⟩ = some (.int .i64 k.id) := (cell_of_row _ _ _ _ _ _ hSw).trans rfl; clear hHeld hSw; go_simp⟩) (by assumption) ?_
  simp only [Act.put, List.setIfInBounds_toArray, List.set_cons_zero, List.set_cons_succ, List.getElem_toArray, List.getElem_cons_succ, List.getElem_cons_zero]
  refine wpAnyH_take (i := 3) (v := .int .i64 a) rfl (by kernel_rfl) (by kernel_rfl) (by kernel_rfl) (fun _ _ _ h => h) (Or.inl ⟨by rfl, by intro w hSw; clear hHeld hSw; go_simp; (try rfl)⟩) (by assumption) ?_
  simp only [Act.put, List.setIfInBounds_toArray, List.set_cons_zero, List.set_cons_succ, List.getElem_toArray, List.getElem_cons_succ, List.getElem_cons_zero]
  refine wpAnyH_ready (rs := [4]) (by kernel_rfl) (by simp) ?_
  refine AllReadyH.cons (i := 4) (rs := []) rfl ?_ AllReadyH.nil
  intro Kq hKq
  simp only [List.getElem_toArray, List.getElem_cons_succ, List.getElem_cons_zero]
  rw [if_pos (by rfl)]
  refine wp_call_fn 33 #[.int .i64 k.id, .int .i64 a] (_) (by as_aux_lemma => kernel_rfl) (confirm_any k.id a (by omega) i1 (by omega) a1 _) ?_
  rintro e wd1 ⟨mv, rfl, hM, hb⟩
  obtain ⟨mb1, rfl⟩ := msg_form hM rfl
  refine ⟨.slice (some ⟨mb1, 0, none⟩) 5 5, rfl, ?_⟩
  have PA1 := Lib.hid (row_below hb Q0.out)
  have PB1 := Lib.hid (row_below hb Q1.out)
  have hz1 : w.heap.size + 1 < wd1.heap.size := row_lt PB1.out
  have HM1 := Lib.hid (MsgAt.less hM (show w.heap.size + 2 ≤ _ from row_lt Q1.out))
  clear hM
  have HBB1 := Lib.hid (HB.out.drew.trans (hb.mono HB.out.size))
  clear hb
  refine hKq.out _ _ (PA1.out) (fun hHeld2 => ?_)
  clear hKq Kq hHeld
  have hHeld := hHeld2
  clear hHeld2
  simp only [Act.put, List.setIfInBounds_toArray, List.set_cons_zero, List.set_cons_succ]
  refine wpAnyH_ready (rs := [5, 6]) (by kernel_rfl) (by simp) ?_
  refine AllReadyH.cons (i := 5) (rs := [6]) rfl ?_ (AllReadyH.cons (i := 6) (rs := []) rfl ?_ AllReadyH.nil)
  · intro Kq hKq
    simp only [List.getElem_toArray, List.getElem_cons_succ, List.getElem_cons_zero]
    rw [if_pos (by rfl)]
    refine wp_op_value (.slice (some ⟨wd1.heap.size, 0, none⟩) 1 1) (wd1.alloc (.cells #[.slice (some ⟨mb1, 0, none⟩) 5 5] 45)) (by as_aux_lemma => kernel_rfl) ?_
    refine hKq.out _ _ (row_alloc PA1.out) (fun hHeld2 => ?_)
    clear hKq Kq hHeld
    have hHeld := hHeld2
    clear hHeld2
    simp only [Act.put, List.setIfInBounds_toArray, List.set_cons_zero, List.set_cons_succ]
    refine wpAnyH_ready (rs := [6]) (by kernel_rfl) (by simp) ?_
    refine AllReadyH.cons (i := 6) (rs := []) rfl ?_ AllReadyH.nil
    intro Kq hKq
    simp only [List.getElem_toArray, List.getElem_cons_succ, List.getElem_cons_zero]
    rw [if_pos (by rfl)]
    refine wp_store_row 27 (.tmp 6) (.tmp 56) (by rfl) (w.heap.size + 1) k.cells (by as_aux_lemma => kernel_rfl) (by as_aux_lemma => kernel_rfl) 27 #[.int .u8 0, .int .u8 0, .int .u8 0, .int .u8 0, .int .u8 0, .int .u8 0, .int .u8 0, .int .u8 0, .int .u8 0, .int .u8 0, .int .u8 0, .int .u8 0, .int .u8 0, .int .i64 0, .int .i64 0, .int .i64 0, .int .i64 0] (row_alloc PB1.out) HC.out (by as_aux_lemma => kernel_rfl) (one_cells _) ?_
    refine hKq.out _ _ ((setRow_other _ _ _ _ (Nat.ne_of_lt (Nat.lt_succ_self _))).trans (row_alloc PA1.out)) (fun hHeld2 => ?_)
    clear hKq Kq hHeld
    have hHeld := hHeld2
    clear hHeld2
    simp only [Act.put, List.setIfInBounds_toArray, List.set_cons_zero, List.set_cons_succ]
    refine wpAnyH_take (i := 7) (v := .slice (some ⟨wd1.heap.size, 0, none⟩) 1 1) rfl (by kernel_rfl) (by kernel_rfl) (by kernel_rfl) (fun _ _ _ h => h) (Or.inl ⟨by rfl, by intro w hSw; clear hHeld hSw; go_simp; (try rfl)⟩) (by assumption) ?_
    simp only [Act.put, List.setIfInBounds_toArray, List.set_cons_zero, List.set_cons_succ, List.getElem_toArray, List.getElem_cons_succ, List.getElem_cons_zero]
    clear hHeld
    refine wpAnyH_done (by kernel_rfl) ?_ _
    go_wp2
    refine bodyPost_ret (results_row2 rfl _ _ (w.heap.size + 1) 27 k.cells (0, 0) _ rfl (setRow_heap _ _ _ _ _ _ (row_alloc PB1.out)) Try.underlying27 rfl HC.out) rfl ?_
    exact ⟨_, rfl, ((out_lit (heap_alloc_new wd1 _) hz1 (HM1.out.below ((Below.refl _ _).alloc (Nat.le_refl _) _))).setRow _ (Nat.lt_succ_self _) _).mono (by omega), below_setRow' (below_more HBB1.out _) (Nat.le_succ _) _⟩
  · intro Kq hKq
    simp only [List.getElem_toArray, List.getElem_cons_succ, List.getElem_cons_zero]
    rw [if_pos (by rfl)]
    refine wp_store_row 27 (.tmp 6) (.tmp 56) (by rfl) (w.heap.size + 1) k.cells (by as_aux_lemma => kernel_rfl) (by as_aux_lemma => kernel_rfl) 27 #[.int .u8 0, .int .u8 0, .int .u8 0, .int .u8 0, .int .u8 0, .int .u8 0, .int .u8 0, .int .u8 0, .int .u8 0, .int .u8 0, .int .u8 0, .int .u8 0, .int .u8 0, .int .i64 0, .int .i64 0, .int .i64 0, .int .i64 0] PB1.out HC.out (by as_aux_lemma => kernel_rfl) (one_cells _) ?_
    refine hKq.out _ _ ((setRow_other _ _ _ _ (Nat.ne_of_lt (Nat.lt_succ_self _))).trans PA1.out) (fun hHeld2 => ?_)
    clear hKq Kq hHeld
    have hHeld := hHeld2
    clear hHeld2
    simp only [Act.put, List.setIfInBounds_toArray, List.set_cons_zero, List.set_cons_succ]
    refine wpAnyH_ready (rs := [5]) (by kernel_rfl) (by simp) ?_
    refine AllReadyH.cons (i := 5) (rs := []) rfl ?_ AllReadyH.nil
    intro Kq hKq
    simp only [List.getElem_toArray, List.getElem_cons_succ, List.getElem_cons_zero]
    rw [if_pos (by rfl)]
    have hsz : (wd1.setRow (w.heap.size + 1) k.cells).heap.size = wd1.heap.size := size_setRow _ _ _
    refine wp_op_value (.slice (some ⟨(wd1.setRow (w.heap.size + 1) k.cells).heap.size, 0, none⟩) 1 1) ((wd1.setRow (w.heap.size + 1) k.cells).alloc (.cells #[.slice (some ⟨mb1, 0, none⟩) 5 5] 45)) (by as_aux_lemma => kernel_rfl) ?_
    refine hKq.out _ _ (row_alloc ((setRow_other _ _ _ _ (Nat.ne_of_lt (Nat.lt_succ_self _))).trans PA1.out)) (fun hHeld2 => ?_)
    clear hKq Kq hHeld
    have hHeld := hHeld2
    clear hHeld2
    simp only [Act.put, List.setIfInBounds_toArray, List.set_cons_zero, List.set_cons_succ]
    rw [hsz]
    refine wpAnyH_take (i := 7) (v := .slice (some ⟨wd1.heap.size, 0, none⟩) 1 1) rfl (by kernel_rfl) (by kernel_rfl) (by kernel_rfl) (fun _ _ _ h => h) (Or.inl ⟨by rfl, by intro w hSw; clear hHeld hSw; go_simp; (try rfl)⟩) (by assumption) ?_
    simp only [Act.put, List.setIfInBounds_toArray, List.set_cons_zero, List.set_cons_succ, List.getElem_toArray, List.getElem_cons_succ, List.getElem_cons_zero]
    clear hHeld
    refine wpAnyH_done (by kernel_rfl) ?_ _
    go_wp2
    refine bodyPost_ret (results_row2 rfl _ _ (w.heap.size + 1) 27 k.cells (0, 0) _ rfl (row_alloc (setRow_heap _ _ _ _ _ _ PB1.out)) Try.underlying27 rfl HC.out) rfl ?_
    exact ⟨_, rfl, (out_lit (heap_alloc_at hsz) hz1 ((HM1.out.setRow (Nat.lt_succ_self _)).below ((Below.refl _ _).alloc (Nat.le_refl _) _))).mono (by omega), below_more (below_setRow' HBB1.out (Nat.le_succ _) _) _⟩
theorem otK_self {k : Lk} {a : Int} (h : a = k.ot) : otK k a = k := by subst h; rfl
def OpnR (w : World) (r : Res) (e : Ending) (w' : World) : Prop := ShutR w r.1 r.2.1 e w'
theorem opnR {w : World} {k : Lk} {ms : List (List Int)} {er : Int} {r : Res} (h : r = (k, ms, er)) : OpnR w r = ShutR w k ms := by subst h; rfl
/-- For every stage but Hold. -/
theorem ropened_any (k : Lk) (hv : k.Val) (h5 : ¬ k.st = 5) (a now : Int) (a0 : 1 ≤ a) (a1 : a ≤ 65535) (n0 : 0 ≤ now) (n1 : now ≤ 1099511627776) (w : World) : Calls Try.prog 49 #[.agg k.cells, .int .i64 a, .int .i64 now] w (OpnR w (pOpened k a now)) := by
  have hno := hv.none
  have hso := hv.some
  have s0 := hv.st0
  have s5 := hv.st5
  by_cases hs0 : k.st = 0
  · have hd : ¬ (k.ot ≠ 0 ∧ a ≠ k.ot) := by have := hno (by omega); omega
    rw [opnR (show pOpened k a now = _ by rw [pOpened, if_neg h5, if_neg hd, if_pos hs0])]
    exact ropened_idle k hv a now a0 a1 n0 n1 hs0 w
  by_cases hs1 : k.st = 1
  · have hd : ¬ (k.ot ≠ 0 ∧ a ≠ k.ot) := by have := hno (by omega); omega
    rw [opnR (show pOpened k a now = _ by rw [pOpened, if_neg h5, if_neg hd, if_neg hs0, if_pos hs1])]
    exact ropened_sent k hv a now a0 a1 n0 n1 hs1 w
  have ho := hso (by omega) (by omega)
  by_cases ha : a = k.ot
  · have hd : ¬ (k.ot ≠ 0 ∧ a ≠ k.ot) := by omega
    by_cases hs3 : k.st = 3
    · rw [opnR (show pOpened k a now = _ by rw [pOpened, if_neg h5, if_neg hd, if_neg hs0, if_neg hs1, if_pos hs3, otK_self ha])]
      exact ropened_conf k hv a now a0 a1 n0 n1 hs3 (by simpa using ha) w
    · rw [opnR (show pOpened k a now = _ by rw [pOpened, if_neg h5, if_neg hd, if_neg hs0, if_neg hs1, if_neg hs3, otK_self ha])]
      exact ropened_rest k hv a now a0 a1 n0 n1 (by simpa using hs0) (by simpa using hs1) (by simpa using hs3) (by simpa using ha) w
  · have hd : k.ot ≠ 0 ∧ a ≠ k.ot := by omega
    rw [opnR (show pOpened k a now = _ by rw [pOpened, if_neg h5, if_pos hd])]
    exact ropened_diff k hv a now a0 a1 n0 n1 (by simpa using hs0) (by simpa using hs1) (by simpa using ha) w
end Go.Proofs.Ytmighkgjbohieaa
