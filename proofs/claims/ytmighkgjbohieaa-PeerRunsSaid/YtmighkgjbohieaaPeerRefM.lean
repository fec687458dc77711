/-
  The reference's Handle.
-/
import Derived.Test.YtmighkgjbohieaaPeerRefK
set_option linter.unusedVariables false
set_option linter.unusedSimpArgs false
namespace Go.Proofs.Ytmighkgjbohieaa
open Go.ChangeShapes Go.WideShapes Go.ChangeAt Go.RowKit Go.Great

set_option maxRecDepth 100000 in
set_option maxHeartbeats 4000000 in
theorem rhandle_hold1 (k : Lk) (hB : k.By) (hz : 0 ≤ k.st) (now : Int) (h : k.chk = 0) (ht : tinB now = true) (mb mo cap : Nat) (x1 x2 x3 x4 : Int) (hx1 : 0 ≤ x1 ∧ x1 ≤ 255) (hx2 : 0 ≤ x2 ∧ x2 ≤ 255) (hx3 : 0 ≤ x3 ∧ x3 ≤ 255) (hx4 : 0 ≤ x4 ∧ x4 ≤ 255) (hcap : 5 ≤ cap) (a c : Int) (hA : x1 + 256 * x2 = a) (hC : x3 + 256 * x4 = c) (ha : (a == 0) = false) (hc : (c == 0) = true) (hs : k.st = 5) (w : World) (m0 : w.cell? ⟨mb, mo, none⟩ = some (.int .u8 1)) (m1 : w.cell? ⟨mb, mo + 1, none⟩ = some (.int .u8 x1)) (m2 : w.cell? ⟨mb, mo + 2, none⟩ = some (.int .u8 x2)) (m3 : w.cell? ⟨mb, mo + 3, none⟩ = some (.int .u8 x3)) (m4 : w.cell? ⟨mb, mo + 4, none⟩ = some (.int .u8 x4)) : Calls Try.prog 30 #[.agg k.cells, .slice (some ⟨mb, mo, none⟩) 5 cap, .int .i64 now] w (Ret3 w (k) [msgOf 3 k.id k.ot] 0) := by
  have hc' : (c != 0) = false := by simp only [bne, hc]; rfl
  have HA := Lib.hid hA
  have HC2 := Lib.hid hC
  clear hA hC
  have hmb : mb < w.heap.size := World.block_lt_of_cell? w _ m0
  obtain ⟨n0, n1⟩ := tin_in ht
  obtain ⟨i0, i1, j0, j1⟩ := (chk_val h).toIn
  obtain ⟨q0, q1⟩ := fr_rows2 w (.cells k.cells 27) (.cells #[.int .u8 0, .int .u8 0, .int .u8 0, .int .u8 0, .int .u8 0, .int .u8 0, .int .u8 0, .int .u8 0, .int .u8 0, .int .u8 0, .int .u8 0, .int .u8 0, .int .u8 0, .int .i64 0, .int .i64 0, .int .i64 0, .int .i64 0] 27)
  have Q0 := Lib.hid q0
  have Q1 := Lib.hid q1
  clear q0 q1
  have HI := Lib.hid (link_info2 k)
  have HZ := Lib.hid link_infoZ
  have HC := Lib.hid (link_info2 (k))
  have hbv : beforeI k now = 0 := by simp only [beforeI, h, ht]; rfl
  go_enter Try.func30, Try.ntmps30
  go_wp2_with (with_reducible refine wpList_load_row rfl 27 (.tmp 3) rfl (w.heap.size) rfl 27 (k).cells (0, 0) _ Q0.out Try.underlying27 rfl HI.out ?_)
  refine (before_any k hB hz now _).mono ?_
  rintro e w1 ⟨rfl, hb⟩
  have P0 := Lib.hid (row_below hb Q0.out)
  have P1 := Lib.hid (row_below hb Q1.out)
  have HB := Lib.hid (below_step (below_more (below_more (Below.refl w.heap.size w) (.cells k.cells 27)) (.cells #[.int .u8 0, .int .u8 0, .int .u8 0, .int .u8 0, .int .u8 0, .int .u8 0, .int .u8 0, .int .u8 0, .int .u8 0, .int .u8 0, .int .u8 0, .int .u8 0, .int .u8 0, .int .i64 0, .int .i64 0, .int .i64 0, .int .i64 0] 27)) hb)
  have M0 := Lib.hid (below_kept hb (below_kept ((Below.refl _ _).alloc (Nat.le_refl _) _) (below_kept ((Below.refl _ _).alloc (Nat.le_refl _) _) m0)))
  have M1 := Lib.hid (below_kept hb (below_kept ((Below.refl _ _).alloc (Nat.le_refl _) _) (below_kept ((Below.refl _ _).alloc (Nat.le_refl _) _) m1)))
  have M2 := Lib.hid (below_kept hb (below_kept ((Below.refl _ _).alloc (Nat.le_refl _) _) (below_kept ((Below.refl _ _).alloc (Nat.le_refl _) _) m2)))
  have M3 := Lib.hid (below_kept hb (below_kept ((Below.refl _ _).alloc (Nat.le_refl _) _) (below_kept ((Below.refl _ _).alloc (Nat.le_refl _) _) m3)))
  have M4 := Lib.hid (below_kept hb (below_kept ((Below.refl _ _).alloc (Nat.le_refl _) _) (below_kept ((Below.refl _ _).alloc (Nat.le_refl _) _) m4)))
  have m0w : w1.cell? ⟨mb, mo, none⟩ = some (.int .u8 1) := M0.out
  have m1w : w1.cell? ⟨mb, mo + 1, none⟩ = some (.int .u8 x1) := M1.out
  have m2w : w1.cell? ⟨mb, mo + 2, none⟩ = some (.int .u8 x2) := M2.out
  have m3w : w1.cell? ⟨mb, mo + 3, none⟩ = some (.int .u8 x3) := M3.out
  have m4w : w1.cell? ⟨mb, mo + 4, none⟩ = some (.int .u8 x4) := M4.out
  have myw : mb < w1.heap.size := World.block_lt_of_cell? _ _ m0w
  clear hb Q0 Q1 hmb m0 m1 m2 m3 m4
  simp only [hbv]
  go_wp2_with fail
  go_region
  simp only [HA.out, HC2.out]
  have P0 := Lib.hid (row_drew P0.out)
  have P1 := Lib.hid (row_drew P1.out)
  have HB := Lib.hid HB.out.drew
  have m0w : w1.drew.cell? ⟨mb, mo, none⟩ = some (.int .u8 1) := M0.out
  have myw : mb < w1.drew.heap.size := World.block_lt_of_cell? _ _ m0w
  clear m1w m2w m3w m4w M0 M1 M2 M3 M4
  generalize hgen : w1.drew = w4 at *
  clear hgen
  have s12 : w4.cell? ⟨w.heap.size, 12, none⟩ = some (.int .u8 k.st) := (cell_of_row _ _ _ _ _ _ P0.out).trans (lk_st k)
  have s13 : w4.cell? ⟨w.heap.size, 13, none⟩ = some (.int .i64 k.id) := (cell_of_row _ _ _ _ _ _ P0.out).trans rfl
  have s14 : w4.cell? ⟨w.heap.size, 14, none⟩ = some (.int .i64 k.ot) := (cell_of_row _ _ _ _ _ _ P0.out).trans rfl
  rw [hs] at s12
  go_upto_region 12 with fail
  clear s12 s13 s14 m0w myw
  refine wp_region_held_drew (S := fun w' => w'.heap[w.heap.size]? = some (.cells k.cells 27)) (by kernel_rfl) (P0.out) (fun hHeld => ?_)
  refine wpAnyH_take (i := 0) (v := .agg k.cells) rfl (by kernel_rfl) (by kernel_rfl) (by kernel_rfl) (fun _ _ _ h => h) (yields_sub (by rfl) 27 _ rfl (w.heap.size) 0 (by rfl) k.cells _ (fun w' h' => range_row h') Try.underlying27 rfl HI.out) (by assumption) ?_
  simp only [Act.put, List.setIfInBounds_toArray, List.set_cons_zero, List.set_cons_succ, List.getElem_toArray, List.getElem_cons_succ, List.getElem_cons_zero]
  refine wpAnyH_take (i := 1) (v := .pointer (some ⟨w.heap.size, 13, none⟩)) rfl (by kernel_rfl) (by kernel_rfl) (by kernel_rfl) (fun _ _ _ h => h) (Or.inl ⟨by rfl, by intro w hSw; clear hHeld hSw; go_simp; (try rfl)⟩) (by assumption) ?_
  simp only [Act.put, List.setIfInBounds_toArray, List.set_cons_zero, List.set_cons_succ, List.getElem_toArray, List.getElem_cons_succ, List.getElem_cons_zero]
  refine wpAnyH_take (i := 2) (v := .int .i64 k.id) rfl (by kernel_rfl) (by kernel_rfl) (by kernel_rfl) (fun _ _ _ h => h) (Or.inl ⟨by rfl, by intro w2 hSw; have tq : w2.cell? ⟨w.heap.size, 13, none⟩ = some (.int .i64 k.id) := (cell_of_row _ _ _ _ _ _ hSw).trans rfl; clear hHeld hSw; go_simp⟩) (by assumption) ?_
  simp only [Act.put, List.setIfInBounds_toArray, List.set_cons_zero, List.set_cons_succ, List.getElem_toArray, List.getElem_cons_succ, List.getElem_cons_zero]
  refine wpAnyH_take (i := 3) (v := .pointer (some ⟨w.heap.size, 14, none⟩)) rfl (by kernel_rfl) (by kernel_rfl) (by kernel_rfl) (fun _ _ _ h => h) (Or.inl ⟨by rfl, by intro w hSw; clear hHeld hSw; go_simp; (try rfl)⟩) (by assumption) ?_
  simp only [Act.put, List.setIfInBounds_toArray, List.set_cons_zero, List.set_cons_succ, List.getElem_toArray, List.getElem_cons_succ, List.getElem_cons_zero]
  refine wpAnyH_take (i := 4) (v := .int .i64 k.ot) rfl (by kernel_rfl) (by kernel_rfl) (by kernel_rfl) (fun _ _ _ h => h) (Or.inl ⟨by rfl, by intro w2 hSw; have tq : w2.cell? ⟨w.heap.size, 14, none⟩ = some (.int .i64 k.ot) := (cell_of_row _ _ _ _ _ _ hSw).trans rfl; clear hHeld hSw; go_simp⟩) (by assumption) ?_
  simp only [Act.put, List.setIfInBounds_toArray, List.set_cons_zero, List.set_cons_succ, List.getElem_toArray, List.getElem_cons_succ, List.getElem_cons_zero]
  refine wpAnyH_ready (rs := [5]) (by kernel_rfl) (by simp) ?_
  refine AllReadyH.cons (i := 5) (rs := []) rfl ?_ AllReadyH.nil
  intro Kq hKq
  simp only [List.getElem_toArray, List.getElem_cons_succ, List.getElem_cons_zero]
  rw [if_pos (by rfl)]
  refine wp_call_fn 23 #[.int .i64 k.id, .int .i64 k.ot] (_) (by as_aux_lemma => kernel_rfl) (shut_any k.id k.ot (by omega) i1 j0 j1 _) ?_
  rintro e wd1 ⟨mv, rfl, hM, hb⟩
  obtain ⟨mb1, rfl⟩ := msg_form hM rfl
  refine ⟨.slice (some ⟨mb1, 0, none⟩) 5 5, rfl, ?_⟩
  have PA1 := Lib.hid (row_below hb P0.out)
  have PB1 := Lib.hid (row_below hb P1.out)
  have hz1 : w.heap.size + 1 < wd1.heap.size := row_lt PB1.out
  have HM1 := Lib.hid (MsgAt.less hM (show w.heap.size + 2 ≤ _ from row_lt P1.out))
  clear hM
  have HBB1 := Lib.hid (HB.out.drew.trans (hb.mono HB.out.size))
  clear hb
  refine hKq.out _ _ (PA1.out) (fun hHeld2 => ?_)
  clear hKq Kq hHeld
  have hHeld := hHeld2
  clear hHeld2
  simp only [Act.put, List.setIfInBounds_toArray, List.set_cons_zero, List.set_cons_succ]
  refine wpAnyH_ready (rs := [6, 7]) (by kernel_rfl) (by simp) ?_
  refine AllReadyH.cons (i := 6) (rs := [7]) rfl ?_ (AllReadyH.cons (i := 7) (rs := []) rfl ?_ AllReadyH.nil)
  · intro Kq hKq
    simp only [List.getElem_toArray, List.getElem_cons_succ, List.getElem_cons_zero]
    rw [if_pos (by rfl)]
    refine wp_op_value (.slice (some ⟨wd1.heap.size, 0, none⟩) 1 1) (wd1.alloc (.cells #[.slice (some ⟨mb1, 0, none⟩) 5 5] 45)) (by as_aux_lemma => kernel_rfl) ?_
    refine hKq.out _ _ (row_alloc PA1.out) (fun hHeld2 => ?_)
    clear hKq Kq hHeld
    have hHeld := hHeld2
    clear hHeld2
    simp only [Act.put, List.setIfInBounds_toArray, List.set_cons_zero, List.set_cons_succ]
    refine wpAnyH_ready (rs := [7]) (by kernel_rfl) (by simp) ?_
    refine AllReadyH.cons (i := 7) (rs := []) rfl ?_ AllReadyH.nil
    intro Kq hKq
    simp only [List.getElem_toArray, List.getElem_cons_succ, List.getElem_cons_zero]
    rw [if_pos (by rfl)]
    refine wp_store_row 27 (.tmp 6) (.tmp 97) (by rfl) (w.heap.size + 1) k.cells (by as_aux_lemma => kernel_rfl) (by as_aux_lemma => kernel_rfl) 27 #[.int .u8 0, .int .u8 0, .int .u8 0, .int .u8 0, .int .u8 0, .int .u8 0, .int .u8 0, .int .u8 0, .int .u8 0, .int .u8 0, .int .u8 0, .int .u8 0, .int .u8 0, .int .i64 0, .int .i64 0, .int .i64 0, .int .i64 0] (row_alloc PB1.out) HC.out (by as_aux_lemma => kernel_rfl) (one_cells _) ?_
    refine hKq.out _ _ ((setRow_other _ _ _ _ (Nat.ne_of_lt (Nat.lt_succ_self _))).trans (row_alloc PA1.out)) (fun hHeld2 => ?_)
    clear hKq Kq hHeld
    have hHeld := hHeld2
    clear hHeld2
    simp only [Act.put, List.setIfInBounds_toArray, List.set_cons_zero, List.set_cons_succ]
    refine wpAnyH_take (i := 8) (v := .slice (some ⟨wd1.heap.size, 0, none⟩) 1 1) rfl (by kernel_rfl) (by kernel_rfl) (by kernel_rfl) (fun _ _ _ h => h) (Or.inl ⟨by rfl, by intro w hSw; clear hHeld hSw; go_simp; (try rfl)⟩) (by assumption) ?_
    simp only [Act.put, List.setIfInBounds_toArray, List.set_cons_zero, List.set_cons_succ, List.getElem_toArray, List.getElem_cons_succ, List.getElem_cons_zero]
    refine wpAnyH_take (i := 9) (v := .int .i64 0) rfl (by kernel_rfl) (by kernel_rfl) (by kernel_rfl) (fun _ _ _ h => h) (Or.inl ⟨by rfl, by intro w hSw; clear hHeld hSw; go_simp; (try rfl)⟩) (by assumption) ?_
    simp only [Act.put, List.setIfInBounds_toArray, List.set_cons_zero, List.set_cons_succ, List.getElem_toArray, List.getElem_cons_succ, List.getElem_cons_zero]
    clear hHeld
    refine wpAnyH_done (by kernel_rfl) ?_ _
    go_wp2
    refine bodyPost_ret (results_row3 rfl _ _ (w.heap.size + 1) 27 k.cells (0, 0) _ rfl (setRow_heap _ _ _ _ _ _ (row_alloc PB1.out)) Try.underlying27 rfl HC.out) rfl ?_
    exact ⟨_, rfl, ((out_lit (heap_alloc_new wd1 _) hz1 (HM1.out.below ((Below.refl _ _).alloc (Nat.le_refl _) _))).setRow _ (Nat.lt_succ_self _) _).mono (by omega), below_setRow' (below_more HBB1.out _) (Nat.le_succ _) _⟩
  · intro Kq hKq
    simp only [List.getElem_toArray, List.getElem_cons_succ, List.getElem_cons_zero]
    rw [if_pos (by rfl)]
    refine wp_store_row 27 (.tmp 6) (.tmp 97) (by rfl) (w.heap.size + 1) k.cells (by as_aux_lemma => kernel_rfl) (by as_aux_lemma => kernel_rfl) 27 #[.int .u8 0, .int .u8 0, .int .u8 0, .int .u8 0, .int .u8 0, .int .u8 0, .int .u8 0, .int .u8 0, .int .u8 0, .int .u8 0, .int .u8 0, .int .u8 0, .int .u8 0, .int .i64 0, .int .i64 0, .int .i64 0, .int .i64 0] PB1.out HC.out (by as_aux_lemma => kernel_rfl) (one_cells _) ?_
    refine hKq.out _ _ ((setRow_other _ _ _ _ (Nat.ne_of_lt (Nat.lt_succ_self _))).trans PA1.out) (fun hHeld2 => ?_)
    clear hKq Kq hHeld
    have hHeld := hHeld2
    clear hHeld2
    simp only [Act.put, List.setIfInBounds_toArray, List.set_cons_zero, List.set_cons_succ]
    refine wpAnyH_ready (rs := [6]) (by kernel_rfl) (by simp) ?_
    refine AllReadyH.cons (i := 6) (rs := []) rfl ?_ AllReadyH.nil
    intro Kq hKq
    simp only [List.getElem_toArray, List.getElem_cons_succ, List.getElem_cons_zero]
    rw [if_pos (by rfl)]
    have hsz : (wd1.setRow (w.heap.size + 1) k.cells).heap.size = wd1.heap.size := size_setRow _ _ _
    refine wp_op_value (.slice (some ⟨(wd1.setRow (w.heap.size + 1) k.cells).heap.size, 0, none⟩) 1 1) ((wd1.setRow (w.heap.size + 1) k.cells).alloc (.cells #[.slice (some ⟨mb1, 0, none⟩) 5 5] 45)) (by as_aux_lemma => kernel_rfl) ?_
    refine hKq.out _ _ (row_alloc ((setRow_other _ _ _ _ (Nat.ne_of_lt (Nat.lt_succ_self _))).trans PA1.out)) (fun hHeld2 => ?_)
    clear hKq Kq hHeld
    have hHeld := hHeld2
    clear hHeld2
    simp only [Act.put, List.setIfInBounds_toArray, List.set_cons_zero, List.set_cons_succ]
    rw [hsz]
    refine wpAnyH_take (i := 8) (v := .slice (some ⟨wd1.heap.size, 0, none⟩) 1 1) rfl (by kernel_rfl) (by kernel_rfl) (by kernel_rfl) (fun _ _ _ h => h) (Or.inl ⟨by rfl, by intro w hSw; clear hHeld hSw; go_simp; (try rfl)⟩) (by assumption) ?_
    simp only [Act.put, List.setIfInBounds_toArray, List.set_cons_zero, List.set_cons_succ, List.getElem_toArray, List.getElem_cons_succ, List.getElem_cons_zero]
    refine wpAnyH_take (i := 9) (v := .int .i64 0) rfl (by kernel_rfl) (by kernel_rfl) (by kernel_rfl) (fun _ _ _ h => h) (Or.inl ⟨by rfl, by intro w hSw; clear hHeld hSw; go_simp; (try rfl)⟩) (by assumption) ?_
    simp only [Act.put, List.setIfInBounds_toArray, List.set_cons_zero, List.set_cons_succ, List.getElem_toArray, List.getElem_cons_succ, List.getElem_cons_zero]
    clear hHeld
    refine wpAnyH_done (by kernel_rfl) ?_ _
    go_wp2
    refine bodyPost_ret (results_row3 rfl _ _ (w.heap.size + 1) 27 k.cells (0, 0) _ rfl (row_alloc (setRow_heap _ _ _ _ _ _ PB1.out)) Try.underlying27 rfl HC.out) rfl ?_
    exact ⟨_, rfl, (out_lit (heap_alloc_at hsz) hz1 ((HM1.out.setRow (Nat.lt_succ_self _)).below ((Below.refl _ _).alloc (Nat.le_refl _) _))).mono (by omega), below_more (below_setRow' HBB1.out (Nat.le_succ _) _) _⟩
set_option maxRecDepth 100000 in
set_option maxHeartbeats 4000000 in
theorem rhandle_hold2 (k : Lk) (hB : k.By) (hz : 0 ≤ k.st) (now : Int) (h : k.chk = 0) (ht : tinB now = true) (mb mo cap : Nat) (x1 x2 x3 x4 : Int) (hx1 : 0 ≤ x1 ∧ x1 ≤ 255) (hx2 : 0 ≤ x2 ∧ x2 ≤ 255) (hx3 : 0 ≤ x3 ∧ x3 ≤ 255) (hx4 : 0 ≤ x4 ∧ x4 ≤ 255) (hcap : 5 ≤ cap) (a c : Int) (hA : x1 + 256 * x2 = a) (hC : x3 + 256 * x4 = c) (ha : (a == 0) = false) (hs : k.st = 5) (w : World) (m0 : w.cell? ⟨mb, mo, none⟩ = some (.int .u8 2)) (m1 : w.cell? ⟨mb, mo + 1, none⟩ = some (.int .u8 x1)) (m2 : w.cell? ⟨mb, mo + 2, none⟩ = some (.int .u8 x2)) (m3 : w.cell? ⟨mb, mo + 3, none⟩ = some (.int .u8 x3)) (m4 : w.cell? ⟨mb, mo + 4, none⟩ = some (.int .u8 x4)) : Calls Try.prog 30 #[.agg k.cells, .slice (some ⟨mb, mo, none⟩) 5 cap, .int .i64 now] w (Ret3 w (k) [msgOf 3 k.id k.ot] 0) := by
  have HA := Lib.hid hA
  have HC2 := Lib.hid hC
  clear hA hC
  have hmb : mb < w.heap.size := World.block_lt_of_cell? w _ m0
  obtain ⟨n0, n1⟩ := tin_in ht
  obtain ⟨i0, i1, j0, j1⟩ := (chk_val h).toIn
  obtain ⟨q0, q1⟩ := fr_rows2 w (.cells k.cells 27) (.cells #[.int .u8 0, .int .u8 0, .int .u8 0, .int .u8 0, .int .u8 0, .int .u8 0, .int .u8 0, .int .u8 0, .int .u8 0, .int .u8 0, .int .u8 0, .int .u8 0, .int .u8 0, .int .i64 0, .int .i64 0, .int .i64 0, .int .i64 0] 27)
  have Q0 := Lib.hid q0
  have Q1 := Lib.hid q1
  clear q0 q1
  have HI := Lib.hid (link_info2 k)
  have HZ := Lib.hid link_infoZ
  have HC := Lib.hid (link_info2 (k))
  have hbv : beforeI k now = 0 := by simp only [beforeI, h, ht]; rfl
  go_enter Try.func30, Try.ntmps30
  go_wp2_with (with_reducible refine wpList_load_row rfl 27 (.tmp 3) rfl (w.heap.size) rfl 27 (k).cells (0, 0) _ Q0.out Try.underlying27 rfl HI.out ?_)
  refine (before_any k hB hz now _).mono ?_
  rintro e w1 ⟨rfl, hb⟩
  have P0 := Lib.hid (row_below hb Q0.out)
  have P1 := Lib.hid (row_below hb Q1.out)
  have HB := Lib.hid (below_step (below_more (below_more (Below.refl w.heap.size w) (.cells k.cells 27)) (.cells #[.int .u8 0, .int .u8 0, .int .u8 0, .int .u8 0, .int .u8 0, .int .u8 0, .int .u8 0, .int .u8 0, .int .u8 0, .int .u8 0, .int .u8 0, .int .u8 0, .int .u8 0, .int .i64 0, .int .i64 0, .int .i64 0, .int .i64 0] 27)) hb)
  have M0 := Lib.hid (below_kept hb (below_kept ((Below.refl _ _).alloc (Nat.le_refl _) _) (below_kept ((Below.refl _ _).alloc (Nat.le_refl _) _) m0)))
  have M1 := Lib.hid (below_kept hb (below_kept ((Below.refl _ _).alloc (Nat.le_refl _) _) (below_kept ((Below.refl _ _).alloc (Nat.le_refl _) _) m1)))
  have M2 := Lib.hid (below_kept hb (below_kept ((Below.refl _ _).alloc (Nat.le_refl _) _) (below_kept ((Below.refl _ _).alloc (Nat.le_refl _) _) m2)))
  have M3 := Lib.hid (below_kept hb (below_kept ((Below.refl _ _).alloc (Nat.le_refl _) _) (below_kept ((Below.refl _ _).alloc (Nat.le_refl _) _) m3)))
  have M4 := Lib.hid (below_kept hb (below_kept ((Below.refl _ _).alloc (Nat.le_refl _) _) (below_kept ((Below.refl _ _).alloc (Nat.le_refl _) _) m4)))
  have m0w : w1.cell? ⟨mb, mo, none⟩ = some (.int .u8 2) := M0.out
  have m1w : w1.cell? ⟨mb, mo + 1, none⟩ = some (.int .u8 x1) := M1.out
  have m2w : w1.cell? ⟨mb, mo + 2, none⟩ = some (.int .u8 x2) := M2.out
  have m3w : w1.cell? ⟨mb, mo + 3, none⟩ = some (.int .u8 x3) := M3.out
  have m4w : w1.cell? ⟨mb, mo + 4, none⟩ = some (.int .u8 x4) := M4.out
  have myw : mb < w1.heap.size := World.block_lt_of_cell? _ _ m0w
  clear hb Q0 Q1 hmb m0 m1 m2 m3 m4
  simp only [hbv]
  go_wp2_with fail
  go_region
  simp only [HA.out, HC2.out]
  have P0 := Lib.hid (row_drew P0.out)
  have P1 := Lib.hid (row_drew P1.out)
  have HB := Lib.hid HB.out.drew
  have m0w : w1.drew.cell? ⟨mb, mo, none⟩ = some (.int .u8 2) := M0.out
  have myw : mb < w1.drew.heap.size := World.block_lt_of_cell? _ _ m0w
  clear m1w m2w m3w m4w M0 M1 M2 M3 M4
  generalize hgen : w1.drew = w4 at *
  clear hgen
  have s12 : w4.cell? ⟨w.heap.size, 12, none⟩ = some (.int .u8 k.st) := (cell_of_row _ _ _ _ _ _ P0.out).trans (lk_st k)
  have s13 : w4.cell? ⟨w.heap.size, 13, none⟩ = some (.int .i64 k.id) := (cell_of_row _ _ _ _ _ _ P0.out).trans rfl
  have s14 : w4.cell? ⟨w.heap.size, 14, none⟩ = some (.int .i64 k.ot) := (cell_of_row _ _ _ _ _ _ P0.out).trans rfl
  rw [hs] at s12
  go_upto_region 12 with fail
  clear s12 s13 s14 m0w myw
  refine wp_region_held_drew (S := fun w' => w'.heap[w.heap.size]? = some (.cells k.cells 27)) (by kernel_rfl) (P0.out) (fun hHeld => ?_)
  refine wpAnyH_take (i := 0) (v := .agg k.cells) rfl (by kernel_rfl) (by kernel_rfl) (by kernel_rfl) (fun _ _ _ h => h) (yields_sub (by rfl) 27 _ rfl (w.heap.size) 0 (by rfl) k.cells _ (fun w' h' => range_row h') Try.underlying27 rfl HI.out) (by assumption) ?_
  simp only [Act.put, List.setIfInBounds_toArray, List.set_cons_zero, List.set_cons_succ, List.getElem_toArray, List.getElem_cons_succ, List.getElem_cons_zero]
  refine wpAnyH_take (i := 1) (v := .pointer (some ⟨w.heap.size, 13, none⟩)) rfl (by kernel_rfl) (by kernel_rfl) (by kernel_rfl) (fun _ _ _ h => h) (Or.inl ⟨by rfl, by intro w hSw; clear hHeld hSw; go_simp; (try rfl)⟩) (by assumption) ?_
  simp only [Act.put, List.setIfInBounds_toArray, List.set_cons_zero, List.set_cons_succ, List.getElem_toArray, List.getElem_cons_succ, List.getElem_cons_zero]
  refine wpAnyH_take (i := 2) (v := .int .i64 k.id) rfl (by kernel_rfl) (by kernel_rfl) (by kernel_rfl) (fun _ _ _ h => h) (Or.inl ⟨by rfl, by intro w2 hSw; have tq : w2.cell? ⟨w.heap.size, 13, none⟩ = some (.int .i64 k.id) := (cell_of_row _ _ _ _ _ _ hSw).trans rfl; clear hHeld hSw; go_simp⟩) (by assumption) ?_
  simp only [Act.put, List.setIfInBounds_toArray, List.set_cons_zero, List.set_cons_succ, List.getElem_toArray, List.getElem_cons_succ, List.getElem_cons_zero]
  refine wpAnyH_take (i := 3) (v := .pointer (some ⟨w.heap.size, 14, none⟩)) rfl (by kernel_rfl) (by kernel_rfl) (by kernel_rfl) (fun _ _ _ h => h) (Or.inl ⟨by rfl, by intro w hSw; clear hHeld hSw; go_simp; (try rfl)⟩) (by assumption) ?_
  simp only [Act.put, List.setIfInBounds_toArray, List.set_cons_zero, List.set_cons_succ, List.getElem_toArray, List.getElem_cons_succ, List.getElem_cons_zero]
  refine wpAnyH_take (i := 4) (v := .int .i64 k.ot) rfl (by kernel_rfl) (by kernel_rfl) (by kernel_rfl) (fun _ _ _ h => h) (Or.inl ⟨by rfl, by intro w2 hSw; have tq : w2.cell? ⟨w.heap.size, 14, none⟩ = some (.int .i64 k.ot) := (cell_of_row _ _ _ _ _ _ hSw).trans rfl; clear hHeld hSw; go_simp⟩) (by assumption) ?_
  simp only [Act.put, List.setIfInBounds_toArray, List.set_cons_zero, List.set_cons_succ, List.getElem_toArray, List.getElem_cons_succ, List.getElem_cons_zero]
  refine wpAnyH_ready (rs := [5]) (by kernel_rfl) (by simp) ?_
  refine AllReadyH.cons (i := 5) (rs := []) rfl ?_ AllReadyH.nil
  intro Kq hKq
  simp only [List.getElem_toArray, List.getElem_cons_succ, List.getElem_cons_zero]
  rw [if_pos (by rfl)]
  refine wp_call_fn 23 #[.int .i64 k.id, .int .i64 k.ot] (_) (by as_aux_lemma => kernel_rfl) (shut_any k.id k.ot (by omega) i1 j0 j1 _) ?_
  rintro e wd1 ⟨mv, rfl, hM, hb⟩
  obtain ⟨mb1, rfl⟩ := msg_form hM rfl
  refine ⟨.slice (some ⟨mb1, 0, none⟩) 5 5, rfl, ?_⟩
  have PA1 := Lib.hid (row_below hb P0.out)
  have PB1 := Lib.hid (row_below hb P1.out)
  have hz1 : w.heap.size + 1 < wd1.heap.size := row_lt PB1.out
  have HM1 := Lib.hid (MsgAt.less hM (show w.heap.size + 2 ≤ _ from row_lt P1.out))
  clear hM
  have HBB1 := Lib.hid (HB.out.drew.trans (hb.mono HB.out.size))
  clear hb
  refine hKq.out _ _ (PA1.out) (fun hHeld2 => ?_)
  clear hKq Kq hHeld
  have hHeld := hHeld2
  clear hHeld2
  simp only [Act.put, List.setIfInBounds_toArray, List.set_cons_zero, List.set_cons_succ]
  refine wpAnyH_ready (rs := [6, 7]) (by kernel_rfl) (by simp) ?_
  refine AllReadyH.cons (i := 6) (rs := [7]) rfl ?_ (AllReadyH.cons (i := 7) (rs := []) rfl ?_ AllReadyH.nil)
  · intro Kq hKq
    simp only [List.getElem_toArray, List.getElem_cons_succ, List.getElem_cons_zero]
    rw [if_pos (by rfl)]
    refine wp_op_value (.slice (some ⟨wd1.heap.size, 0, none⟩) 1 1) (wd1.alloc (.cells #[.slice (some ⟨mb1, 0, none⟩) 5 5] 45)) (by as_aux_lemma => kernel_rfl) ?_
    refine hKq.out _ _ (row_alloc PA1.out) (fun hHeld2 => ?_)
    clear hKq Kq hHeld
    have hHeld := hHeld2
    clear hHeld2
    simp only [Act.put, List.setIfInBounds_toArray, List.set_cons_zero, List.set_cons_succ]
    refine wpAnyH_ready (rs := [7]) (by kernel_rfl) (by simp) ?_
    refine AllReadyH.cons (i := 7) (rs := []) rfl ?_ AllReadyH.nil
    intro Kq hKq
    simp only [List.getElem_toArray, List.getElem_cons_succ, List.getElem_cons_zero]
    rw [if_pos (by rfl)]
    refine wp_store_row 27 (.tmp 6) (.tmp 97) (by rfl) (w.heap.size + 1) k.cells (by as_aux_lemma => kernel_rfl) (by as_aux_lemma => kernel_rfl) 27 #[.int .u8 0, .int .u8 0, .int .u8 0, .int .u8 0, .int .u8 0, .int .u8 0, .int .u8 0, .int .u8 0, .int .u8 0, .int .u8 0, .int .u8 0, .int .u8 0, .int .u8 0, .int .i64 0, .int .i64 0, .int .i64 0, .int .i64 0] (row_alloc PB1.out) HC.out (by as_aux_lemma => kernel_rfl) (one_cells _) ?_
    refine hKq.out _ _ ((setRow_other _ _ _ _ (Nat.ne_of_lt (Nat.lt_succ_self _))).trans (row_alloc PA1.out)) (fun hHeld2 => ?_)
    clear hKq Kq hHeld
    have hHeld := hHeld2
    clear hHeld2
    simp only [Act.put, List.setIfInBounds_toArray, List.set_cons_zero, List.set_cons_succ]
    refine wpAnyH_take (i := 8) (v := .slice (some ⟨wd1.heap.size, 0, none⟩) 1 1) rfl (by kernel_rfl) (by kernel_rfl) (by kernel_rfl) (fun _ _ _ h => h) (Or.inl ⟨by rfl, by intro w hSw; clear hHeld hSw; go_simp; (try rfl)⟩) (by assumption) ?_
    simp only [Act.put, List.setIfInBounds_toArray, List.set_cons_zero, List.set_cons_succ, List.getElem_toArray, List.getElem_cons_succ, List.getElem_cons_zero]
    refine wpAnyH_take (i := 9) (v := .int .i64 0) rfl (by kernel_rfl) (by kernel_rfl) (by kernel_rfl) (fun _ _ _ h => h) (Or.inl ⟨by rfl, by intro w hSw; clear hHeld hSw; go_simp; (try rfl)⟩) (by assumption) ?_
    simp only [Act.put, List.setIfInBounds_toArray, List.set_cons_zero, List.set_cons_succ, List.getElem_toArray, List.getElem_cons_succ, List.getElem_cons_zero]
    clear hHeld
    refine wpAnyH_done (by kernel_rfl) ?_ _
    go_wp2
    refine bodyPost_ret (results_row3 rfl _ _ (w.heap.size + 1) 27 k.cells (0, 0) _ rfl (setRow_heap _ _ _ _ _ _ (row_alloc PB1.out)) Try.underlying27 rfl HC.out) rfl ?_
    exact ⟨_, rfl, ((out_lit (heap_alloc_new wd1 _) hz1 (HM1.out.below ((Below.refl _ _).alloc (Nat.le_refl _) _))).setRow _ (Nat.lt_succ_self _) _).mono (by omega), below_setRow' (below_more HBB1.out _) (Nat.le_succ _) _⟩
  · intro Kq hKq
    simp only [List.getElem_toArray, List.getElem_cons_succ, List.getElem_cons_zero]
    rw [if_pos (by rfl)]
    refine wp_store_row 27 (.tmp 6) (.tmp 97) (by rfl) (w.heap.size + 1) k.cells (by as_aux_lemma => kernel_rfl) (by as_aux_lemma => kernel_rfl) 27 #[.int .u8 0, .int .u8 0, .int .u8 0, .int .u8 0, .int .u8 0, .int .u8 0, .int .u8 0, .int .u8 0, .int .u8 0, .int .u8 0, .int .u8 0, .int .u8 0, .int .u8 0, .int .i64 0, .int .i64 0, .int .i64 0, .int .i64 0] PB1.out HC.out (by as_aux_lemma => kernel_rfl) (one_cells _) ?_
    refine hKq.out _ _ ((setRow_other _ _ _ _ (Nat.ne_of_lt (Nat.lt_succ_self _))).trans PA1.out) (fun hHeld2 => ?_)
    clear hKq Kq hHeld
    have hHeld := hHeld2
    clear hHeld2
    simp only [Act.put, List.setIfInBounds_toArray, List.set_cons_zero, List.set_cons_succ]
    refine wpAnyH_ready (rs := [6]) (by kernel_rfl) (by simp) ?_
    refine AllReadyH.cons (i := 6) (rs := []) rfl ?_ AllReadyH.nil
    intro Kq hKq
    simp only [List.getElem_toArray, List.getElem_cons_succ, List.getElem_cons_zero]
    rw [if_pos (by rfl)]
    have hsz : (wd1.setRow (w.heap.size + 1) k.cells).heap.size = wd1.heap.size := size_setRow _ _ _
    refine wp_op_value (.slice (some ⟨(wd1.setRow (w.heap.size + 1) k.cells).heap.size, 0, none⟩) 1 1) ((wd1.setRow (w.heap.size + 1) k.cells).alloc (.cells #[.slice (some ⟨mb1, 0, none⟩) 5 5] 45)) (by as_aux_lemma => kernel_rfl) ?_
    refine hKq.out _ _ (row_alloc ((setRow_other _ _ _ _ (Nat.ne_of_lt (Nat.lt_succ_self _))).trans PA1.out)) (fun hHeld2 => ?_)
    clear hKq Kq hHeld
    have hHeld := hHeld2
    clear hHeld2
    simp only [Act.put, List.setIfInBounds_toArray, List.set_cons_zero, List.set_cons_succ]
    rw [hsz]
    refine wpAnyH_take (i := 8) (v := .slice (some ⟨wd1.heap.size, 0, none⟩) 1 1) rfl (by kernel_rfl) (by kernel_rfl) (by kernel_rfl) (fun _ _ _ h => h) (Or.inl ⟨by rfl, by intro w hSw; clear hHeld hSw; go_simp; (try rfl)⟩) (by assumption) ?_
    simp only [Act.put, List.setIfInBounds_toArray, List.set_cons_zero, List.set_cons_succ, List.getElem_toArray, List.getElem_cons_succ, List.getElem_cons_zero]
    refine wpAnyH_take (i := 9) (v := .int .i64 0) rfl (by kernel_rfl) (by kernel_rfl) (by kernel_rfl) (fun _ _ _ h => h) (Or.inl ⟨by rfl, by intro w hSw; clear hHeld hSw; go_simp; (try rfl)⟩) (by assumption) ?_
    simp only [Act.put, List.setIfInBounds_toArray, List.set_cons_zero, List.set_cons_succ, List.getElem_toArray, List.getElem_cons_succ, List.getElem_cons_zero]
    clear hHeld
    refine wpAnyH_done (by kernel_rfl) ?_ _
    go_wp2
    refine bodyPost_ret (results_row3 rfl _ _ (w.heap.size + 1) 27 k.cells (0, 0) _ rfl (row_alloc (setRow_heap _ _ _ _ _ _ PB1.out)) Try.underlying27 rfl HC.out) rfl ?_
    exact ⟨_, rfl, (out_lit (heap_alloc_at hsz) hz1 ((HM1.out.setRow (Nat.lt_succ_self _)).below ((Below.refl _ _).alloc (Nat.le_refl _) _))).mono (by omega), below_more (below_setRow' HBB1.out (Nat.le_succ _) _) _⟩
set_option maxRecDepth 100000 in
set_option maxHeartbeats 4000000 in
theorem rhandle_open (k : Lk) (hB : k.By) (hz : 0 ≤ k.st) (now : Int) (h : k.chk = 0) (ht : tinB now = true) (mb mo cap : Nat) (x1 x2 x3 x4 : Int) (hx1 : 0 ≤ x1 ∧ x1 ≤ 255) (hx2 : 0 ≤ x2 ∧ x2 ≤ 255) (hx3 : 0 ≤ x3 ∧ x3 ≤ 255) (hx4 : 0 ≤ x4 ∧ x4 ≤ 255) (hcap : 5 ≤ cap) (a c : Int) (hA : x1 + 256 * x2 = a) (hC : x3 + 256 * x4 = c) (ha : (a == 0) = false) (hc : (c == 0) = true) (hs5 : (k.st == 5) = false) (h5 : ¬ k.st = 5) (ha1 : 1 ≤ a) (ha2 : a ≤ 65535) (K : Lk) (ms : List (List Int)) (hr : pOpened k a now = (K, ms, 0)) (w : World) (m0 : w.cell? ⟨mb, mo, none⟩ = some (.int .u8 1)) (m1 : w.cell? ⟨mb, mo + 1, none⟩ = some (.int .u8 x1)) (m2 : w.cell? ⟨mb, mo + 2, none⟩ = some (.int .u8 x2)) (m3 : w.cell? ⟨mb, mo + 3, none⟩ = some (.int .u8 x3)) (m4 : w.cell? ⟨mb, mo + 4, none⟩ = some (.int .u8 x4)) : Calls Try.prog 30 #[.agg k.cells, .slice (some ⟨mb, mo, none⟩) 5 cap, .int .i64 now] w (Ret3 w (K) ms 0) := by
  have HOP := Lib.hid (show ∀ W : World, Calls Try.prog 49 #[.agg k.cells, .int .i64 a, .int .i64 now] W (ShutR W K ms) from fun W => by have hh := ropened_any k (chk_val h) h5 a now ha1 ha2 (tin_in ht).1 (tin_in ht).2 W; rw [opnR hr] at hh; exact hh)
  have hc' : (c != 0) = false := by simp only [bne, hc]; rfl
  have HA := Lib.hid hA
  have HC2 := Lib.hid hC
  clear hA hC
  have hmb : mb < w.heap.size := World.block_lt_of_cell? w _ m0
  obtain ⟨n0, n1⟩ := tin_in ht
  obtain ⟨i0, i1, j0, j1⟩ := (chk_val h).toIn
  obtain ⟨q0, q1⟩ := fr_rows2 w (.cells k.cells 27) (.cells #[.int .u8 0, .int .u8 0, .int .u8 0, .int .u8 0, .int .u8 0, .int .u8 0, .int .u8 0, .int .u8 0, .int .u8 0, .int .u8 0, .int .u8 0, .int .u8 0, .int .u8 0, .int .i64 0, .int .i64 0, .int .i64 0, .int .i64 0] 27)
  have Q0 := Lib.hid q0
  have Q1 := Lib.hid q1
  clear q0 q1
  have HI := Lib.hid (link_info2 k)
  have HZ := Lib.hid link_infoZ
  have HC := Lib.hid (link_info2 (K))
  have hbv : beforeI k now = 0 := by simp only [beforeI, h, ht]; rfl
  go_enter Try.func30, Try.ntmps30
  go_wp2_with (with_reducible refine wpList_load_row rfl 27 (.tmp 3) rfl (w.heap.size) rfl 27 (k).cells (0, 0) _ Q0.out Try.underlying27 rfl HI.out ?_)
  refine (before_any k hB hz now _).mono ?_
  rintro e w1 ⟨rfl, hb⟩
  have P0 := Lib.hid (row_below hb Q0.out)
  have P1 := Lib.hid (row_below hb Q1.out)
  have HB := Lib.hid (below_step (below_more (below_more (Below.refl w.heap.size w) (.cells k.cells 27)) (.cells #[.int .u8 0, .int .u8 0, .int .u8 0, .int .u8 0, .int .u8 0, .int .u8 0, .int .u8 0, .int .u8 0, .int .u8 0, .int .u8 0, .int .u8 0, .int .u8 0, .int .u8 0, .int .i64 0, .int .i64 0, .int .i64 0, .int .i64 0] 27)) hb)
  have M0 := Lib.hid (below_kept hb (below_kept ((Below.refl _ _).alloc (Nat.le_refl _) _) (below_kept ((Below.refl _ _).alloc (Nat.le_refl _) _) m0)))
  have M1 := Lib.hid (below_kept hb (below_kept ((Below.refl _ _).alloc (Nat.le_refl _) _) (below_kept ((Below.refl _ _).alloc (Nat.le_refl _) _) m1)))
  have M2 := Lib.hid (below_kept hb (below_kept ((Below.refl _ _).alloc (Nat.le_refl _) _) (below_kept ((Below.refl _ _).alloc (Nat.le_refl _) _) m2)))
  have M3 := Lib.hid (below_kept hb (below_kept ((Below.refl _ _).alloc (Nat.le_refl _) _) (below_kept ((Below.refl _ _).alloc (Nat.le_refl _) _) m3)))
  have M4 := Lib.hid (below_kept hb (below_kept ((Below.refl _ _).alloc (Nat.le_refl _) _) (below_kept ((Below.refl _ _).alloc (Nat.le_refl _) _) m4)))
  have m0w : w1.cell? ⟨mb, mo, none⟩ = some (.int .u8 1) := M0.out
  have m1w : w1.cell? ⟨mb, mo + 1, none⟩ = some (.int .u8 x1) := M1.out
  have m2w : w1.cell? ⟨mb, mo + 2, none⟩ = some (.int .u8 x2) := M2.out
  have m3w : w1.cell? ⟨mb, mo + 3, none⟩ = some (.int .u8 x3) := M3.out
  have m4w : w1.cell? ⟨mb, mo + 4, none⟩ = some (.int .u8 x4) := M4.out
  have myw : mb < w1.heap.size := World.block_lt_of_cell? _ _ m0w
  clear hb Q0 Q1 hmb m0 m1 m2 m3 m4
  simp only [hbv]
  go_wp2_with fail
  go_region
  simp only [HA.out, HC2.out]
  have P0 := Lib.hid (row_drew P0.out)
  have P1 := Lib.hid (row_drew P1.out)
  have HB := Lib.hid HB.out.drew
  have m0w : w1.drew.cell? ⟨mb, mo, none⟩ = some (.int .u8 1) := M0.out
  have myw : mb < w1.drew.heap.size := World.block_lt_of_cell? _ _ m0w
  clear m1w m2w m3w m4w M0 M1 M2 M3 M4
  generalize hgen : w1.drew = w4 at *
  clear hgen
  have s12 : w4.cell? ⟨w.heap.size, 12, none⟩ = some (.int .u8 k.st) := (cell_of_row _ _ _ _ _ _ P0.out).trans (lk_st k)
  have s13 : w4.cell? ⟨w.heap.size, 13, none⟩ = some (.int .i64 k.id) := (cell_of_row _ _ _ _ _ _ P0.out).trans rfl
  have s14 : w4.cell? ⟨w.heap.size, 14, none⟩ = some (.int .i64 k.ot) := (cell_of_row _ _ _ _ _ _ P0.out).trans rfl
  go_wp2_with (with_reducible refine wpList_load_row rfl 27 (.tmp 3) rfl (w.heap.size) rfl 27 (k).cells (0, 0) _ P0.out Try.underlying27 rfl HI.out ?_)
  refine (HOP.out _).mono ?_
  rintro e w3 ⟨v, rfl, hO, hb⟩
  have P5 := Lib.hid (row_below hb P1.out)
  have HB3 := Lib.hid (below_step HB.out hb)
  have hz2 : w.heap.size + 1 < w4.heap.size := row_lt P1.out
  have hz3 : w.heap.size + 1 < w3.heap.size := row_lt P5.out
  have HO := Lib.hid hO
  clear hb hO s12 s13 s14 m0w myw
  have P6 := Lib.hid (row_alloc (o := .cells (K).cells 27) P5.out)
  have P7 := Lib.hid (heap_alloc_new w3 (.cells (K).cells 27))
  go_wp2_with (first
    | ((with_reducible refine wpList_store_rowTo rfl 27 (.tmp 12) (.tmp 113) rfl rfl w3.heap.size (K).cells ?_ ?_ 27 #[.int .u8 0, .int .u8 0, .int .u8 0, .int .u8 0, .int .u8 0, .int .u8 0, .int .u8 0, .int .u8 0, .int .u8 0, .int .u8 0, .int .u8 0, .int .u8 0, .int .u8 0, .int .i64 0, .int .i64 0, .int .i64 0, .int .i64 0] (heap_alloc_new _ _) HC.out rfl (one_cells _) ?_); (as_aux_lemma => kernel_rfl); (as_aux_lemma => kernel_rfl); rw [setRow_alloc])
    | (with_reducible refine wpList_load_row rfl 27 (.tmp 12) rfl (w3.heap.size) rfl 27 (K).cells (0, 0) _ P7.out Try.underlying27 rfl HC.out ?_)
    | ((with_reducible refine wpList_store_rowTo rfl 27 (.tmp 6) (.tmp 115) rfl rfl (w.heap.size + 1) (K).cells ?_ ?_ 27 #[.int .u8 0, .int .u8 0, .int .u8 0, .int .u8 0, .int .u8 0, .int .u8 0, .int .u8 0, .int .u8 0, .int .u8 0, .int .u8 0, .int .u8 0, .int .u8 0, .int .u8 0, .int .i64 0, .int .i64 0, .int .i64 0, .int .i64 0] P6.out HC.out rfl (one_cells _) ?_); (as_aux_lemma => kernel_rfl); (as_aux_lemma => kernel_rfl)))
  refine bodyPost_ret (results_row3 rfl _ _ (w.heap.size + 1) 27 (K).cells (0, 0) _ rfl (setRow_heap _ _ _ _ _ _ P6.out) Try.underlying27 rfl HC.out) rfl ?_
  exact ⟨_, rfl, ((HO.out.below ((Below.refl _ _).alloc (Nat.le_refl _) _)).setRow _ hz2 _).mono HB.out.size, below_setRow' (below_more HB3.out _) (Nat.le_succ _) _⟩
set_option maxRecDepth 100000 in
set_option maxHeartbeats 4000000 in
theorem rhandle_sent (k : Lk) (hB : k.By) (hz : 0 ≤ k.st) (now : Int) (h : k.chk = 0) (ht : tinB now = true) (mb mo cap : Nat) (x1 x2 x3 x4 : Int) (hx1 : 0 ≤ x1 ∧ x1 ≤ 255) (hx2 : 0 ≤ x2 ∧ x2 ≤ 255) (hx3 : 0 ≤ x3 ∧ x3 ≤ 255) (hx4 : 0 ≤ x4 ∧ x4 ≤ 255) (hcap : 5 ≤ cap) (a c : Int) (hA : x1 + 256 * x2 = a) (hC : x3 + 256 * x4 = c) (ha : (a == 0) = false) (hs : k.st = 1) (hc : (c == k.id) = true) (ho : (k.ot == 0) = true) (w : World) (m0 : w.cell? ⟨mb, mo, none⟩ = some (.int .u8 2)) (m1 : w.cell? ⟨mb, mo + 1, none⟩ = some (.int .u8 x1)) (m2 : w.cell? ⟨mb, mo + 2, none⟩ = some (.int .u8 x2)) (m3 : w.cell? ⟨mb, mo + 3, none⟩ = some (.int .u8 x3)) (m4 : w.cell? ⟨mb, mo + 4, none⟩ = some (.int .u8 x4)) : Calls Try.prog 30 #[.agg k.cells, .slice (some ⟨mb, mo, none⟩) 5 cap, .int .i64 now] w (Ret3 w (waitK (otK k a) 3 now) [] 0) := by
  have hc' : (c != k.id) = false := by simp only [bne, hc]; rfl
  have HA := Lib.hid hA
  have HC2 := Lib.hid hC
  clear hA hC
  have hmb : mb < w.heap.size := World.block_lt_of_cell? w _ m0
  obtain ⟨n0, n1⟩ := tin_in ht
  obtain ⟨i0, i1, j0, j1⟩ := (chk_val h).toIn
  obtain ⟨q0, q1⟩ := fr_rows2 w (.cells k.cells 27) (.cells #[.int .u8 0, .int .u8 0, .int .u8 0, .int .u8 0, .int .u8 0, .int .u8 0, .int .u8 0, .int .u8 0, .int .u8 0, .int .u8 0, .int .u8 0, .int .u8 0, .int .u8 0, .int .i64 0, .int .i64 0, .int .i64 0, .int .i64 0] 27)
  have Q0 := Lib.hid q0
  have Q1 := Lib.hid q1
  clear q0 q1
  have HI := Lib.hid (link_info2 k)
  have HZ := Lib.hid link_infoZ
  have HC := Lib.hid (link_info2 (waitK (otK k a) 3 now))
  have hbv : beforeI k now = 0 := by simp only [beforeI, h, ht]; rfl
  go_enter Try.func30, Try.ntmps30
  go_wp2_with (with_reducible refine wpList_load_row rfl 27 (.tmp 3) rfl (w.heap.size) rfl 27 (k).cells (0, 0) _ Q0.out Try.underlying27 rfl HI.out ?_)
  refine (before_any k hB hz now _).mono ?_
  rintro e w1 ⟨rfl, hb⟩
  have P0 := Lib.hid (row_below hb Q0.out)
  have P1 := Lib.hid (row_below hb Q1.out)
  have HB := Lib.hid (below_step (below_more (below_more (Below.refl w.heap.size w) (.cells k.cells 27)) (.cells #[.int .u8 0, .int .u8 0, .int .u8 0, .int .u8 0, .int .u8 0, .int .u8 0, .int .u8 0, .int .u8 0, .int .u8 0, .int .u8 0, .int .u8 0, .int .u8 0, .int .u8 0, .int .i64 0, .int .i64 0, .int .i64 0, .int .i64 0] 27)) hb)
  have M0 := Lib.hid (below_kept hb (below_kept ((Below.refl _ _).alloc (Nat.le_refl _) _) (below_kept ((Below.refl _ _).alloc (Nat.le_refl _) _) m0)))
  have M1 := Lib.hid (below_kept hb (below_kept ((Below.refl _ _).alloc (Nat.le_refl _) _) (below_kept ((Below.refl _ _).alloc (Nat.le_refl _) _) m1)))
  have M2 := Lib.hid (below_kept hb (below_kept ((Below.refl _ _).alloc (Nat.le_refl _) _) (below_kept ((Below.refl _ _).alloc (Nat.le_refl _) _) m2)))
  have M3 := Lib.hid (below_kept hb (below_kept ((Below.refl _ _).alloc (Nat.le_refl _) _) (below_kept ((Below.refl _ _).alloc (Nat.le_refl _) _) m3)))
  have M4 := Lib.hid (below_kept hb (below_kept ((Below.refl _ _).alloc (Nat.le_refl _) _) (below_kept ((Below.refl _ _).alloc (Nat.le_refl _) _) m4)))
  have m0w : w1.cell? ⟨mb, mo, none⟩ = some (.int .u8 2) := M0.out
  have m1w : w1.cell? ⟨mb, mo + 1, none⟩ = some (.int .u8 x1) := M1.out
  have m2w : w1.cell? ⟨mb, mo + 2, none⟩ = some (.int .u8 x2) := M2.out
  have m3w : w1.cell? ⟨mb, mo + 3, none⟩ = some (.int .u8 x3) := M3.out
  have m4w : w1.cell? ⟨mb, mo + 4, none⟩ = some (.int .u8 x4) := M4.out
  have myw : mb < w1.heap.size := World.block_lt_of_cell? _ _ m0w
  clear hb Q0 Q1 hmb m0 m1 m2 m3 m4
  simp only [hbv]
  go_wp2_with fail
  go_region
  simp only [HA.out, HC2.out]
  have P0 := Lib.hid (row_drew P0.out)
  have P1 := Lib.hid (row_drew P1.out)
  have HB := Lib.hid HB.out.drew
  have m0w : w1.drew.cell? ⟨mb, mo, none⟩ = some (.int .u8 2) := M0.out
  have myw : mb < w1.drew.heap.size := World.block_lt_of_cell? _ _ m0w
  clear m1w m2w m3w m4w M0 M1 M2 M3 M4
  generalize hgen : w1.drew = w4 at *
  clear hgen
  have s12 : w4.cell? ⟨w.heap.size, 12, none⟩ = some (.int .u8 k.st) := (cell_of_row _ _ _ _ _ _ P0.out).trans (lk_st k)
  have s13 : w4.cell? ⟨w.heap.size, 13, none⟩ = some (.int .i64 k.id) := (cell_of_row _ _ _ _ _ _ P0.out).trans rfl
  have s14 : w4.cell? ⟨w.heap.size, 14, none⟩ = some (.int .i64 k.ot) := (cell_of_row _ _ _ _ _ _ P0.out).trans rfl
  have cf : ∀ o, w4.frozen? ⟨w.heap.size, o, none⟩ = false := fun o => frozen_of_row _ _ _ _ _ P0.out
  have HO := Lib.hid (link_info2 (otK k a))
  have RK := Lib.hid (show (w4.setCell ⟨w.heap.size, 14, none⟩ (.int .i64 a)).heap[w.heap.size]? = some (.cells (otK k a).cells 27) from heap_setCell_same _ _ 14 _ _ _ P0.out)
  have RZ := Lib.hid (show (w4.setCell ⟨w.heap.size, 14, none⟩ (.int .i64 a)).heap[w.heap.size + 1]? = some (.cells #[.int .u8 0, .int .u8 0, .int .u8 0, .int .u8 0, .int .u8 0, .int .u8 0, .int .u8 0, .int .u8 0, .int .u8 0, .int .u8 0, .int .u8 0, .int .u8 0, .int .u8 0, .int .i64 0, .int .i64 0, .int .i64 0, .int .i64 0] 27) from row_set (by simp only []; omega) P1.out)
  have HBX := Lib.hid (show Below w.heap.size w (w4.setCell ⟨w.heap.size, 14, none⟩ (.int .i64 a)) from (HB.out.setCell (p := ⟨w.heap.size, 14, none⟩) (Nat.le_refl _) _))
  rw [hs] at s12
  go_wp2_with (with_reducible refine wpList_load_row rfl 27 (.tmp 3) rfl (w.heap.size) rfl 27 (otK k a).cells (0, 0) _ RK.out Try.underlying27 rfl HO.out ?_)
  refine (ref_waiting (otK k a) 3 now n0 n1 _).mono ?_
  rintro e w3 ⟨rfl, hb⟩
  have P5 := Lib.hid (row_below hb RZ.out)
  have HB3 := Lib.hid (below_step HBX.out hb)
  clear hb s12 s13 s14 m0w myw cf
  go_wp2_with ((with_reducible refine wpList_store_rowTo rfl 27 (.tmp 6) (.tmp 173) rfl rfl (w.heap.size + 1) (waitK (otK k a) 3 now).cells ?_ ?_ 27 #[.int .u8 0, .int .u8 0, .int .u8 0, .int .u8 0, .int .u8 0, .int .u8 0, .int .u8 0, .int .u8 0, .int .u8 0, .int .u8 0, .int .u8 0, .int .u8 0, .int .u8 0, .int .i64 0, .int .i64 0, .int .i64 0, .int .i64 0] P5.out HC.out rfl (one_cells _) ?_); (as_aux_lemma => kernel_rfl); (as_aux_lemma => kernel_rfl))
  refine bodyPost_ret (results_row3 rfl _ _ (w.heap.size + 1) 27 (waitK (otK k a) 3 now).cells (0, 0) _ rfl (setRow_heap _ _ _ _ _ _ P5.out) Try.underlying27 rfl HC.out) rfl ?_
  exact ⟨_, rfl, outAt_nil _ _, below_setRow' HB3.out (Nat.le_succ _) _⟩
set_option maxRecDepth 100000 in
set_option maxHeartbeats 4000000 in
theorem rhandle_got (k : Lk) (hB : k.By) (hz : 0 ≤ k.st) (now : Int) (h : k.chk = 0) (ht : tinB now = true) (mb mo cap : Nat) (x1 x2 x3 x4 : Int) (hx1 : 0 ≤ x1 ∧ x1 ≤ 255) (hx2 : 0 ≤ x2 ∧ x2 ≤ 255) (hx3 : 0 ≤ x3 ∧ x3 ≤ 255) (hx4 : 0 ≤ x4 ∧ x4 ≤ 255) (hcap : 5 ≤ cap) (a c : Int) (hA : x1 + 256 * x2 = a) (hC : x3 + 256 * x4 = c) (ha : (a == 0) = false) (hs : k.st = 2) (hc : (c == k.id) = true) (ho : (k.ot == 0) = false) (hq : (k.ot == a) = true) (w : World) (m0 : w.cell? ⟨mb, mo, none⟩ = some (.int .u8 2)) (m1 : w.cell? ⟨mb, mo + 1, none⟩ = some (.int .u8 x1)) (m2 : w.cell? ⟨mb, mo + 2, none⟩ = some (.int .u8 x2)) (m3 : w.cell? ⟨mb, mo + 3, none⟩ = some (.int .u8 x3)) (m4 : w.cell? ⟨mb, mo + 4, none⟩ = some (.int .u8 x4)) : Calls Try.prog 30 #[.agg k.cells, .slice (some ⟨mb, mo, none⟩) 5 cap, .int .i64 now] w (Ret3 w (upK k) [] 0) := by
  have hc' : (c != k.id) = false := by simp only [bne, hc]; rfl
  have HA := Lib.hid hA
  have HC2 := Lib.hid hC
  clear hA hC
  have hmb : mb < w.heap.size := World.block_lt_of_cell? w _ m0
  obtain ⟨n0, n1⟩ := tin_in ht
  obtain ⟨i0, i1, j0, j1⟩ := (chk_val h).toIn
  obtain ⟨q0, q1⟩ := fr_rows2 w (.cells k.cells 27) (.cells #[.int .u8 0, .int .u8 0, .int .u8 0, .int .u8 0, .int .u8 0, .int .u8 0, .int .u8 0, .int .u8 0, .int .u8 0, .int .u8 0, .int .u8 0, .int .u8 0, .int .u8 0, .int .i64 0, .int .i64 0, .int .i64 0, .int .i64 0] 27)
  have Q0 := Lib.hid q0
  have Q1 := Lib.hid q1
  clear q0 q1
  have HI := Lib.hid (link_info2 k)
  have HZ := Lib.hid link_infoZ
  have HC := Lib.hid (link_info2 (upK k))
  have hbv : beforeI k now = 0 := by simp only [beforeI, h, ht]; rfl
  go_enter Try.func30, Try.ntmps30
  go_wp2_with (with_reducible refine wpList_load_row rfl 27 (.tmp 3) rfl (w.heap.size) rfl 27 (k).cells (0, 0) _ Q0.out Try.underlying27 rfl HI.out ?_)
  refine (before_any k hB hz now _).mono ?_
  rintro e w1 ⟨rfl, hb⟩
  have P0 := Lib.hid (row_below hb Q0.out)
  have P1 := Lib.hid (row_below hb Q1.out)
  have HB := Lib.hid (below_step (below_more (below_more (Below.refl w.heap.size w) (.cells k.cells 27)) (.cells #[.int .u8 0, .int .u8 0, .int .u8 0, .int .u8 0, .int .u8 0, .int .u8 0, .int .u8 0, .int .u8 0, .int .u8 0, .int .u8 0, .int .u8 0, .int .u8 0, .int .u8 0, .int .i64 0, .int .i64 0, .int .i64 0, .int .i64 0] 27)) hb)
  have M0 := Lib.hid (below_kept hb (below_kept ((Below.refl _ _).alloc (Nat.le_refl _) _) (below_kept ((Below.refl _ _).alloc (Nat.le_refl _) _) m0)))
  have M1 := Lib.hid (below_kept hb (below_kept ((Below.refl _ _).alloc (Nat.le_refl _) _) (below_kept ((Below.refl _ _).alloc (Nat.le_refl _) _) m1)))
  have M2 := Lib.hid (below_kept hb (below_kept ((Below.refl _ _).alloc (Nat.le_refl _) _) (below_kept ((Below.refl _ _).alloc (Nat.le_refl _) _) m2)))
  have M3 := Lib.hid (below_kept hb (below_kept ((Below.refl _ _).alloc (Nat.le_refl _) _) (below_kept ((Below.refl _ _).alloc (Nat.le_refl _) _) m3)))
  have M4 := Lib.hid (below_kept hb (below_kept ((Below.refl _ _).alloc (Nat.le_refl _) _) (below_kept ((Below.refl _ _).alloc (Nat.le_refl _) _) m4)))
  have m0w : w1.cell? ⟨mb, mo, none⟩ = some (.int .u8 2) := M0.out
  have m1w : w1.cell? ⟨mb, mo + 1, none⟩ = some (.int .u8 x1) := M1.out
  have m2w : w1.cell? ⟨mb, mo + 2, none⟩ = some (.int .u8 x2) := M2.out
  have m3w : w1.cell? ⟨mb, mo + 3, none⟩ = some (.int .u8 x3) := M3.out
  have m4w : w1.cell? ⟨mb, mo + 4, none⟩ = some (.int .u8 x4) := M4.out
  have myw : mb < w1.heap.size := World.block_lt_of_cell? _ _ m0w
  clear hb Q0 Q1 hmb m0 m1 m2 m3 m4
  simp only [hbv]
  go_wp2_with fail
  go_region
  simp only [HA.out, HC2.out]
  have P0 := Lib.hid (row_drew P0.out)
  have P1 := Lib.hid (row_drew P1.out)
  have HB := Lib.hid HB.out.drew
  have m0w : w1.drew.cell? ⟨mb, mo, none⟩ = some (.int .u8 2) := M0.out
  have myw : mb < w1.drew.heap.size := World.block_lt_of_cell? _ _ m0w
  clear m1w m2w m3w m4w M0 M1 M2 M3 M4
  generalize hgen : w1.drew = w4 at *
  clear hgen
  have s12 : w4.cell? ⟨w.heap.size, 12, none⟩ = some (.int .u8 k.st) := (cell_of_row _ _ _ _ _ _ P0.out).trans (lk_st k)
  have s13 : w4.cell? ⟨w.heap.size, 13, none⟩ = some (.int .i64 k.id) := (cell_of_row _ _ _ _ _ _ P0.out).trans rfl
  have s14 : w4.cell? ⟨w.heap.size, 14, none⟩ = some (.int .i64 k.ot) := (cell_of_row _ _ _ _ _ _ P0.out).trans rfl
  rw [hs] at s12
  go_wp2_with (with_reducible refine wpList_load_row rfl 27 (.tmp 3) rfl (w.heap.size) rfl 27 (k).cells (0, 0) _ P0.out Try.underlying27 rfl HI.out ?_)
  refine (ref_up k _).mono ?_
  rintro e w3 ⟨rfl, hb⟩
  have P5 := Lib.hid (row_below hb P1.out)
  have HB3 := Lib.hid (below_step HB.out hb)
  clear hb s12 s13 s14 m0w myw
  go_wp2_with ((with_reducible refine wpList_store_rowTo rfl 27 (.tmp 6) (.tmp 177) rfl rfl (w.heap.size + 1) (upK k).cells ?_ ?_ 27 #[.int .u8 0, .int .u8 0, .int .u8 0, .int .u8 0, .int .u8 0, .int .u8 0, .int .u8 0, .int .u8 0, .int .u8 0, .int .u8 0, .int .u8 0, .int .u8 0, .int .u8 0, .int .i64 0, .int .i64 0, .int .i64 0, .int .i64 0] P5.out HC.out rfl (one_cells _) ?_); (as_aux_lemma => kernel_rfl); (as_aux_lemma => kernel_rfl))
  refine bodyPost_ret (results_row3 rfl _ _ (w.heap.size + 1) 27 (upK k).cells (0, 0) _ rfl (setRow_heap _ _ _ _ _ _ P5.out) Try.underlying27 rfl HC.out) rfl ?_
  exact ⟨_, rfl, outAt_nil _ _, below_setRow' HB3.out (Nat.le_succ _) _⟩
set_option maxRecDepth 100000 in
set_option maxHeartbeats 4000000 in
theorem rhandle_rest (k : Lk) (hB : k.By) (hz : 0 ≤ k.st) (now : Int) (h : k.chk = 0) (ht : tinB now = true) (mb mo cap : Nat) (x1 x2 x3 x4 : Int) (hx1 : 0 ≤ x1 ∧ x1 ≤ 255) (hx2 : 0 ≤ x2 ∧ x2 ≤ 255) (hx3 : 0 ≤ x3 ∧ x3 ≤ 255) (hx4 : 0 ≤ x4 ∧ x4 ≤ 255) (hcap : 5 ≤ cap) (a c : Int) (hA : x1 + 256 * x2 = a) (hC : x3 + 256 * x4 = c) (ha : (a == 0) = false) (hs0 : (k.st == 0) = false) (hs5 : (k.st == 5) = false) (hs1 : (k.st == 1) = false) (hs2 : (k.st == 2) = false) (hc : (c == k.id) = true) (ho : (k.ot == 0) = false) (hq : (k.ot == a) = true) (w : World) (m0 : w.cell? ⟨mb, mo, none⟩ = some (.int .u8 2)) (m1 : w.cell? ⟨mb, mo + 1, none⟩ = some (.int .u8 x1)) (m2 : w.cell? ⟨mb, mo + 2, none⟩ = some (.int .u8 x2)) (m3 : w.cell? ⟨mb, mo + 3, none⟩ = some (.int .u8 x3)) (m4 : w.cell? ⟨mb, mo + 4, none⟩ = some (.int .u8 x4)) : Calls Try.prog 30 #[.agg k.cells, .slice (some ⟨mb, mo, none⟩) 5 cap, .int .i64 now] w (Ret3 w (k) [] 0) := by
  have hc' : (c != k.id) = false := by simp only [bne, hc]; rfl
  have HA := Lib.hid hA
  have HC2 := Lib.hid hC
  clear hA hC
  have hmb : mb < w.heap.size := World.block_lt_of_cell? w _ m0
  obtain ⟨n0, n1⟩ := tin_in ht
  obtain ⟨i0, i1, j0, j1⟩ := (chk_val h).toIn
  obtain ⟨q0, q1⟩ := fr_rows2 w (.cells k.cells 27) (.cells #[.int .u8 0, .int .u8 0, .int .u8 0, .int .u8 0, .int .u8 0, .int .u8 0, .int .u8 0, .int .u8 0, .int .u8 0, .int .u8 0, .int .u8 0, .int .u8 0, .int .u8 0, .int .i64 0, .int .i64 0, .int .i64 0, .int .i64 0] 27)
  have Q0 := Lib.hid q0
  have Q1 := Lib.hid q1
  clear q0 q1
  have HI := Lib.hid (link_info2 k)
  have HZ := Lib.hid link_infoZ
  have HC := Lib.hid (link_info2 (k))
  have hbv : beforeI k now = 0 := by simp only [beforeI, h, ht]; rfl
  go_enter Try.func30, Try.ntmps30
  go_wp2_with (with_reducible refine wpList_load_row rfl 27 (.tmp 3) rfl (w.heap.size) rfl 27 (k).cells (0, 0) _ Q0.out Try.underlying27 rfl HI.out ?_)
  refine (before_any k hB hz now _).mono ?_
  rintro e w1 ⟨rfl, hb⟩
  have P0 := Lib.hid (row_below hb Q0.out)
  have P1 := Lib.hid (row_below hb Q1.out)
  have HB := Lib.hid (below_step (below_more (below_more (Below.refl w.heap.size w) (.cells k.cells 27)) (.cells #[.int .u8 0, .int .u8 0, .int .u8 0, .int .u8 0, .int .u8 0, .int .u8 0, .int .u8 0, .int .u8 0, .int .u8 0, .int .u8 0, .int .u8 0, .int .u8 0, .int .u8 0, .int .i64 0, .int .i64 0, .int .i64 0, .int .i64 0] 27)) hb)
  have M0 := Lib.hid (below_kept hb (below_kept ((Below.refl _ _).alloc (Nat.le_refl _) _) (below_kept ((Below.refl _ _).alloc (Nat.le_refl _) _) m0)))
  have M1 := Lib.hid (below_kept hb (below_kept ((Below.refl _ _).alloc (Nat.le_refl _) _) (below_kept ((Below.refl _ _).alloc (Nat.le_refl _) _) m1)))
  have M2 := Lib.hid (below_kept hb (below_kept ((Below.refl _ _).alloc (Nat.le_refl _) _) (below_kept ((Below.refl _ _).alloc (Nat.le_refl _) _) m2)))
  have M3 := Lib.hid (below_kept hb (below_kept ((Below.refl _ _).alloc (Nat.le_refl _) _) (below_kept ((Below.refl _ _).alloc (Nat.le_refl _) _) m3)))
  have M4 := Lib.hid (below_kept hb (below_kept ((Below.refl _ _).alloc (Nat.le_refl _) _) (below_kept ((Below.refl _ _).alloc (Nat.le_refl _) _) m4)))
  have m0w : w1.cell? ⟨mb, mo, none⟩ = some (.int .u8 2) := M0.out
  have m1w : w1.cell? ⟨mb, mo + 1, none⟩ = some (.int .u8 x1) := M1.out
  have m2w : w1.cell? ⟨mb, mo + 2, none⟩ = some (.int .u8 x2) := M2.out
  have m3w : w1.cell? ⟨mb, mo + 3, none⟩ = some (.int .u8 x3) := M3.out
  have m4w : w1.cell? ⟨mb, mo + 4, none⟩ = some (.int .u8 x4) := M4.out
  have myw : mb < w1.heap.size := World.block_lt_of_cell? _ _ m0w
  clear hb Q0 Q1 hmb m0 m1 m2 m3 m4
  simp only [hbv]
  go_wp2_with fail
  go_region
  simp only [HA.out, HC2.out]
  have P0 := Lib.hid (row_drew P0.out)
  have P1 := Lib.hid (row_drew P1.out)
  have HB := Lib.hid HB.out.drew
  have m0w : w1.drew.cell? ⟨mb, mo, none⟩ = some (.int .u8 2) := M0.out
  have myw : mb < w1.drew.heap.size := World.block_lt_of_cell? _ _ m0w
  clear m1w m2w m3w m4w M0 M1 M2 M3 M4
  generalize hgen : w1.drew = w4 at *
  clear hgen
  have s12 : w4.cell? ⟨w.heap.size, 12, none⟩ = some (.int .u8 k.st) := (cell_of_row _ _ _ _ _ _ P0.out).trans (lk_st k)
  have s13 : w4.cell? ⟨w.heap.size, 13, none⟩ = some (.int .i64 k.id) := (cell_of_row _ _ _ _ _ _ P0.out).trans rfl
  have s14 : w4.cell? ⟨w.heap.size, 14, none⟩ = some (.int .i64 k.ot) := (cell_of_row _ _ _ _ _ _ P0.out).trans rfl
  go_wp2_with (first
    | (with_reducible refine wpList_load_row rfl 27 (.tmp 3) rfl (w.heap.size) rfl 27 (k).cells (0, 0) _ P0.out Try.underlying27 rfl HI.out ?_)
    | ((with_reducible refine wpList_store_rowTo rfl 27 (.tmp 6) (.tmp 178) rfl rfl (w.heap.size + 1) (k).cells ?_ ?_ 27 #[.int .u8 0, .int .u8 0, .int .u8 0, .int .u8 0, .int .u8 0, .int .u8 0, .int .u8 0, .int .u8 0, .int .u8 0, .int .u8 0, .int .u8 0, .int .u8 0, .int .u8 0, .int .i64 0, .int .i64 0, .int .i64 0, .int .i64 0] P1.out HC.out rfl (one_cells _) ?_); (as_aux_lemma => kernel_rfl); (as_aux_lemma => kernel_rfl)))
  refine bodyPost_ret (results_row3 rfl _ _ (w.heap.size + 1) 27 (k).cells (0, 0) _ rfl (setRow_heap _ _ _ _ _ _ P1.out) Try.underlying27 rfl HC.out) rfl ?_
  exact ⟨_, rfl, outAt_nil _ _, below_setRow' HB.out (Nat.le_succ _) _⟩
end Go.Proofs.Ytmighkgjbohieaa
