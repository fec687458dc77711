/-
  The walk of PeerMatches: peer's functions return what the reference's do.
-/
import Derived.Test.YtmighkgjbohieaaPeerRefP
import Derived.Test.YtmighkgjbohieaaPeerBytes
set_option linter.unusedVariables false
set_option linter.unusedSimpArgs false
namespace Go.Proofs.Ytmighkgjbohieaa.peerMatches
open Go.ChangeShapes Go.WideShapes Go.ChangeAt Go.RowKit Go.Great

def BoolR (w : World) (e : Ending) (w' : World) : Prop := e = .returned (.bool true) ∧ Below w.heap.size w w'
set_option maxRecDepth 100000 in
set_option maxHeartbeats 4000000 in
theorem long (k : Lk) (hw : k.Wf) (now : Int) (v : Value) (m : List Int) (w : World) (hm : MsgIn w v m) (hl : 20 < m.length) : Calls Try.prog 8 #[.agg k.cells, v, .int .i64 now] w (BoolR w) := by
  have HM := Lib.hid hm
  obtain ⟨ao, cap, rfl, hcap, hby, hcc⟩ := hm
  have HCC := Lib.hid hcc
  clear hcc
  have hl2 : decide ((m.length : Int) > 20) = true := by simp; omega
  have hl3 : decide (20 < (m.length : Int)) = true := by simp; omega
  go_enter Try.func8, Try.ntmps8
  go_wp2
  go_ret
  exact ⟨rfl, by go_grown⟩
set_option maxRecDepth 100000 in
set_option maxHeartbeats 16000000 in
theorem short (k : Lk) (hw : k.Wf) (now : Int) (v : Value) (m : List Int) (w : World) (hm : MsgIn w v m) (hl : m.length ≤ 20) : Calls Try.prog 8 #[.agg k.cells, v, .int .i64 now] w (BoolR w) := by
  have HM := Lib.hid hm
  obtain ⟨ao, cap, rfl, hcap, hby, hcc⟩ := hm
  have HCC := Lib.hid hcc
  clear hcc
  have hl2 : decide ((m.length : Int) > 20) = false := by simp; omega
  have hl3 : (m.length : Int) ≤ 20 := by omega
  have hB := hw.toBy
  have hz := hw.st.1
  have hby2 := Lib.hid hby
  obtain ⟨X0, e0, hr0⟩ : ∃ X e, pNew k = (X, e) := ⟨_, _, rfl⟩
  have wf0 : X0.Wf := by have h := wf_new (k := k) hB; rw [hr0] at h; exact h
  obtain ⟨X1, l1, e1, hr1⟩ : ∃ X l e, pStart k now = (X, l, e) := ⟨_, _, _, rfl⟩
  have wf1 : X1.Wf := by have h := wf_start hB now; rw [hr1] at h; exact h
  have ff1 : (∀ m ∈ l1, MsgOk m) ∧ l1.length ≤ 2 := by have h := (fine_start hB now).2; rw [hr1] at h; exact h
  have FM1 := Lib.hid ff1.1
  have hq1 := ff1.2
  obtain ⟨X2, l2, e2, hr2⟩ : ∃ X l e, pTick k now = (X, l, e) := ⟨_, _, _, rfl⟩
  have wf2 : X2.Wf := by have h := wf_tick hB now; rw [hr2] at h; exact h
  have ff2 : (∀ m ∈ l2, MsgOk m) ∧ l2.length ≤ 2 := by have h := (fine_tick hB now).2; rw [hr2] at h; exact h
  have FM2 := Lib.hid ff2.1
  have hq2 := ff2.2
  obtain ⟨X3, l3, e3, hr3⟩ : ∃ X l e, pClose k now = (X, l, e) := ⟨_, _, _, rfl⟩
  have wf3 : X3.Wf := by have h := wf_close hB now; rw [hr3] at h; exact h
  have ff3 : (∀ m ∈ l3, MsgOk m) ∧ l3.length ≤ 2 := by have h := (fine_close hB now).2; rw [hr3] at h; exact h
  have FM3 := Lib.hid ff3.1
  have hq3 := ff3.2
  obtain ⟨X4, l4, e4, hr4⟩ : ∃ X l e, pHandle k m now = (X, l, e) := ⟨_, _, _, rfl⟩
  have wf4 : X4.Wf := by have h := wf_handle hB m hby now; rw [hr4] at h; exact h
  have ff4 : (∀ m ∈ l4, MsgOk m) ∧ l4.length ≤ 2 := by have h := (fine_handle hB m now).2; rw [hr4] at h; exact h
  have FM4 := Lib.hid ff4.1
  have hq4 := ff4.2
  have HX0 := Lib.hid (link_info2 X0)
  have HE0 := eql_self X0 wf0
  clear wf0
  have HX1 := Lib.hid (link_info2 X1)
  have HE1 := eql_self X1 wf1
  clear wf1
  have HX2 := Lib.hid (link_info2 X2)
  have HE2 := eql_self X2 wf2
  clear wf2
  have HX3 := Lib.hid (link_info2 X3)
  have HE3 := eql_self X3 wf3
  clear wf3
  have HX4 := Lib.hid (link_info2 X4)
  have HE4 := eql_self X4 wf4
  clear wf4
  have HIk := Lib.hid (link_info2 k)
  have CP0 := Lib.hid (show ∀ W : World, Calls Try.prog 24 #[.agg #[.int .u8 k.o0, .int .u8 k.o1, .int .u8 k.o2, .int .u8 k.o3, .int .u8 k.o4, .int .u8 k.o5], .agg #[.int .u8 k.p0, .int .u8 k.p1, .int .u8 k.p2, .int .u8 k.p3, .int .u8 k.p4, .int .u8 k.p5], .int .i64 k.id] W fun e w' => e = .returned (.tuple #[.agg X0.cells, .int .i64 e0]) ∧ Below W.heap.size W w' from fun W => by have h := new_any k hB W; rw [hr0] at h; exact h)
  have CP1 := Lib.hid (show ∀ W : World, Calls Try.prog 17 #[.agg k.cells, .int .i64 now] W (Ret3 W X1 l1 e1) from fun W => ret_of hr1 (start_any k hB now W))
  have CP2 := Lib.hid (show ∀ W : World, Calls Try.prog 21 #[.agg k.cells, .int .i64 now] W (Ret3 W X2 l2 e2) from fun W => ret_of hr2 (tick_any k hB now W))
  have CP3 := Lib.hid (show ∀ W : World, Calls Try.prog 19 #[.agg k.cells, .int .i64 now] W (Ret3 W X3 l3 e3) from fun W => ret_of hr3 (close_any k hB now W))
  have CP4 := Lib.hid (show ∀ (W : World) (mv : Value), MsgIn W mv m → Calls Try.prog 20 #[.agg k.cells, mv, .int .i64 now] W (Ret3 W X4 l4 e4) from fun W mv hmv => ret_of hr4 (handle_any k hB now mv m W hmv))
  have CR0 := Lib.hid (show ∀ W : World, Calls Try.prog 31 #[.agg #[.int .u8 k.o0, .int .u8 k.o1, .int .u8 k.o2, .int .u8 k.o3, .int .u8 k.o4, .int .u8 k.o5], .agg #[.int .u8 k.p0, .int .u8 k.p1, .int .u8 k.p2, .int .u8 k.p3, .int .u8 k.p4, .int .u8 k.p5], .int .i64 k.id] W fun e w' => e = .returned (.tuple #[.agg X0.cells, .int .i64 e0]) ∧ Below W.heap.size W w' from fun W => by have h := rnew_any k hB W; rw [hr0] at h; exact h)
  have CR1 := Lib.hid (show ∀ W : World, Calls Try.prog 27 #[.agg k.cells, .int .i64 now] W (Ret3 W X1 l1 e1) from fun W => ret_of hr1 (rstart_any k hB hz now W))
  have CR2 := Lib.hid (show ∀ W : World, Calls Try.prog 29 #[.agg k.cells, .int .i64 now] W (Ret3 W X2 l2 e2) from fun W => ret_of hr2 (rtick_any k hB hz now W))
  have CR3 := Lib.hid (show ∀ W : World, Calls Try.prog 28 #[.agg k.cells, .int .i64 now] W (Ret3 W X3 l3 e3) from fun W => ret_of hr3 (rclose_any k hB hz now W))
  have CR4 := Lib.hid (show ∀ (W : World) (mv : Value), MsgIn W mv m → Calls Try.prog 30 #[.agg k.cells, mv, .int .i64 now] W (Ret3 W X4 l4 e4) from fun W mv hmv => ret_of hr4 (rhandle_any k hB hz now mv m W hmv))
  have CC := Lib.hid (show ∀ W : World, Calls Try.prog 14 #[.agg k.cells] W fun e w' => e = .returned (.int .i64 k.chk) ∧ Below W.heap.size W w' from fun W => check_any k hB W)
  have RC := Lib.hid (show ∀ W : World, Calls Try.prog 32 #[.agg k.cells] W fun e w' => e = .returned (.int .i64 k.chk) ∧ Below W.heap.size W w' from fun W => refcheck_any k hB hz W)
  clear hr0 hr1 hr2 hr3 hr4 ff1 ff2 ff3 ff4 hby
  generalize hchk : k.chk = kc at *
  clear hchk hB hz
  go_enter Try.func8, Try.ntmps8
  have gK : w.heap.size ≤ w.heap.size := by have hh := Below.size (Below.refl w.heap.size w); exact hh
  have z0a : (w.alloc (.cells k.cells 27)).cell? ⟨w.heap.size, 0, none⟩ = some (.int .u8 k.o0) := (cell_of_row _ _ _ _ _ _ (heap_alloc_at rfl)).trans rfl
  have z1a : (w.alloc (.cells k.cells 27)).cell? ⟨w.heap.size, 1, none⟩ = some (.int .u8 k.o1) := (cell_of_row _ _ _ _ _ _ (heap_alloc_at rfl)).trans rfl
  have z2a : (w.alloc (.cells k.cells 27)).cell? ⟨w.heap.size, 2, none⟩ = some (.int .u8 k.o2) := (cell_of_row _ _ _ _ _ _ (heap_alloc_at rfl)).trans rfl
  have z3a : (w.alloc (.cells k.cells 27)).cell? ⟨w.heap.size, 3, none⟩ = some (.int .u8 k.o3) := (cell_of_row _ _ _ _ _ _ (heap_alloc_at rfl)).trans rfl
  have z4a : (w.alloc (.cells k.cells 27)).cell? ⟨w.heap.size, 4, none⟩ = some (.int .u8 k.o4) := (cell_of_row _ _ _ _ _ _ (heap_alloc_at rfl)).trans rfl
  have z5a : (w.alloc (.cells k.cells 27)).cell? ⟨w.heap.size, 5, none⟩ = some (.int .u8 k.o5) := (cell_of_row _ _ _ _ _ _ (heap_alloc_at rfl)).trans rfl
  have z6a : (w.alloc (.cells k.cells 27)).cell? ⟨w.heap.size, 6, none⟩ = some (.int .u8 k.p0) := (cell_of_row _ _ _ _ _ _ (heap_alloc_at rfl)).trans rfl
  have z7a : (w.alloc (.cells k.cells 27)).cell? ⟨w.heap.size, 7, none⟩ = some (.int .u8 k.p1) := (cell_of_row _ _ _ _ _ _ (heap_alloc_at rfl)).trans rfl
  have z8a : (w.alloc (.cells k.cells 27)).cell? ⟨w.heap.size, 8, none⟩ = some (.int .u8 k.p2) := (cell_of_row _ _ _ _ _ _ (heap_alloc_at rfl)).trans rfl
  have z9a : (w.alloc (.cells k.cells 27)).cell? ⟨w.heap.size, 9, none⟩ = some (.int .u8 k.p3) := (cell_of_row _ _ _ _ _ _ (heap_alloc_at rfl)).trans rfl
  have z10a : (w.alloc (.cells k.cells 27)).cell? ⟨w.heap.size, 10, none⟩ = some (.int .u8 k.p4) := (cell_of_row _ _ _ _ _ _ (heap_alloc_at rfl)).trans rfl
  have z11a : (w.alloc (.cells k.cells 27)).cell? ⟨w.heap.size, 11, none⟩ = some (.int .u8 k.p5) := (cell_of_row _ _ _ _ _ _ (heap_alloc_at rfl)).trans rfl
  have z13a : (w.alloc (.cells k.cells 27)).cell? ⟨w.heap.size, 13, none⟩ = some (.int .i64 k.id) := (cell_of_row _ _ _ _ _ _ (heap_alloc_at rfl)).trans rfl
  go_wp2_with (fail)
  refine (CP0.out _).mono ?_
  rintro e w1 ⟨rfl, hb⟩
  have Kw1 := Lib.hid (show w1.heap[w.heap.size]? = some (.cells k.cells 27) from row_below hb (heap_alloc_at rfl))
  have lKw1 : w.heap.size < w1.heap.size := row_lt Kw1.out
  have HBw1 := Lib.hid (below_step (below_more (Below.refl w.heap.size w) (.cells k.cells 27)) hb)
  clear hb
  clear z0a z1a z2a z3a z4a z5a z6a z7a z8a z9a z10a z11a z13a
  have nK_X : w.heap.size < w1.heap.size := lKw1
  have gX : w.heap.size ≤ w1.heap.size := by have hh := Below.size HBw1.out; exact hh
  have z0b : (w1.alloc (.cells X0.cells 27)).cell? ⟨w.heap.size, 0, none⟩ = some (.int .u8 k.o0) := (cell_of_row _ _ _ _ _ _ (row_alloc Kw1.out)).trans rfl
  have z1b : (w1.alloc (.cells X0.cells 27)).cell? ⟨w.heap.size, 1, none⟩ = some (.int .u8 k.o1) := (cell_of_row _ _ _ _ _ _ (row_alloc Kw1.out)).trans rfl
  have z2b : (w1.alloc (.cells X0.cells 27)).cell? ⟨w.heap.size, 2, none⟩ = some (.int .u8 k.o2) := (cell_of_row _ _ _ _ _ _ (row_alloc Kw1.out)).trans rfl
  have z3b : (w1.alloc (.cells X0.cells 27)).cell? ⟨w.heap.size, 3, none⟩ = some (.int .u8 k.o3) := (cell_of_row _ _ _ _ _ _ (row_alloc Kw1.out)).trans rfl
  have z4b : (w1.alloc (.cells X0.cells 27)).cell? ⟨w.heap.size, 4, none⟩ = some (.int .u8 k.o4) := (cell_of_row _ _ _ _ _ _ (row_alloc Kw1.out)).trans rfl
  have z5b : (w1.alloc (.cells X0.cells 27)).cell? ⟨w.heap.size, 5, none⟩ = some (.int .u8 k.o5) := (cell_of_row _ _ _ _ _ _ (row_alloc Kw1.out)).trans rfl
  have z6b : (w1.alloc (.cells X0.cells 27)).cell? ⟨w.heap.size, 6, none⟩ = some (.int .u8 k.p0) := (cell_of_row _ _ _ _ _ _ (row_alloc Kw1.out)).trans rfl
  have z7b : (w1.alloc (.cells X0.cells 27)).cell? ⟨w.heap.size, 7, none⟩ = some (.int .u8 k.p1) := (cell_of_row _ _ _ _ _ _ (row_alloc Kw1.out)).trans rfl
  have z8b : (w1.alloc (.cells X0.cells 27)).cell? ⟨w.heap.size, 8, none⟩ = some (.int .u8 k.p2) := (cell_of_row _ _ _ _ _ _ (row_alloc Kw1.out)).trans rfl
  have z9b : (w1.alloc (.cells X0.cells 27)).cell? ⟨w.heap.size, 9, none⟩ = some (.int .u8 k.p3) := (cell_of_row _ _ _ _ _ _ (row_alloc Kw1.out)).trans rfl
  have z10b : (w1.alloc (.cells X0.cells 27)).cell? ⟨w.heap.size, 10, none⟩ = some (.int .u8 k.p4) := (cell_of_row _ _ _ _ _ _ (row_alloc Kw1.out)).trans rfl
  have z11b : (w1.alloc (.cells X0.cells 27)).cell? ⟨w.heap.size, 11, none⟩ = some (.int .u8 k.p5) := (cell_of_row _ _ _ _ _ _ (row_alloc Kw1.out)).trans rfl
  have z13b : (w1.alloc (.cells X0.cells 27)).cell? ⟨w.heap.size, 13, none⟩ = some (.int .i64 k.id) := (cell_of_row _ _ _ _ _ _ (row_alloc Kw1.out)).trans rfl
  go_wp2_with (((with_reducible refine wpList_store_rowTo rfl 27 (.tmp 7) (.tmp 27) rfl rfl (w1.heap.size) (X0.cells) ?_ ?_ 27 #[.int .u8 0, .int .u8 0, .int .u8 0, .int .u8 0, .int .u8 0, .int .u8 0, .int .u8 0, .int .u8 0, .int .u8 0, .int .u8 0, .int .u8 0, .int .u8 0, .int .u8 0, .int .i64 0, .int .i64 0, .int .i64 0, .int .i64 0] (heap_alloc_at rfl) HX0.out rfl (one_cells _) ?_); (as_aux_lemma => kernel_rfl); (as_aux_lemma => kernel_rfl); rw [setRow_allocAt rfl]))
  refine (CR0.out _).mono ?_
  rintro e w2 ⟨rfl, hb⟩
  have Kw2 := Lib.hid (show w2.heap[w.heap.size]? = some (.cells k.cells 27) from row_below hb (row_alloc Kw1.out))
  have lKw2 : w.heap.size < w2.heap.size := row_lt Kw2.out
  have Xw2 := Lib.hid (show w2.heap[w1.heap.size]? = some (.cells X0.cells 27) from row_below hb (heap_alloc_at rfl))
  have lXw2 : w1.heap.size < w2.heap.size := row_lt Xw2.out
  have HBw2 := Lib.hid (below_step (below_more HBw1.out (.cells X0.cells 27)) hb)
  clear hb
  clear z0b z1b z2b z3b z4b z5b z6b z7b z8b z9b z10b z11b z13b
  have nK_Y : w.heap.size < w2.heap.size := lKw2
  have nX_Y : w1.heap.size < w2.heap.size := lXw2
  have gY : w.heap.size ≤ w2.heap.size := by have hh := Below.size HBw2.out; exact hh
  go_upto_region 5 with ((with_reducible refine wpList_store_rowTo rfl 27 (.tmp 9) (.tmp 37) rfl rfl (w2.heap.size) (X0.cells) ?_ ?_ 27 #[.int .u8 0, .int .u8 0, .int .u8 0, .int .u8 0, .int .u8 0, .int .u8 0, .int .u8 0, .int .u8 0, .int .u8 0, .int .u8 0, .int .u8 0, .int .u8 0, .int .u8 0, .int .i64 0, .int .i64 0, .int .i64 0, .int .i64 0] (heap_alloc_at rfl) HX0.out rfl (one_cells _) ?_); (as_aux_lemma => kernel_rfl); (as_aux_lemma => kernel_rfl); rw [setRow_allocAt rfl])
  obtain ⟨w3, hwq⟩ : ∃ wq, wq = (w2.alloc (.cells X0.cells 27)) := ⟨_, rfl⟩
  rw [← hwq]
  have hb : Below ((w2.alloc (.cells X0.cells 27))).heap.size (w2.alloc (.cells X0.cells 27)) w3 := by rw [hwq]; exact Below.refl _ _
  clear hwq
  have Kw3 := Lib.hid (show w3.heap[w.heap.size]? = some (.cells k.cells 27) from row_below hb (row_alloc Kw2.out))
  have lKw3 : w.heap.size < w3.heap.size := row_lt Kw3.out
  have Xw3 := Lib.hid (show w3.heap[w1.heap.size]? = some (.cells X0.cells 27) from row_below hb (row_alloc Xw2.out))
  have lXw3 : w1.heap.size < w3.heap.size := row_lt Xw3.out
  have Yw3 := Lib.hid (show w3.heap[w2.heap.size]? = some (.cells X0.cells 27) from row_below hb (heap_alloc_at rfl))
  have lYw3 : w2.heap.size < w3.heap.size := row_lt Yw3.out
  have HBw3 := Lib.hid (below_step (below_more HBw2.out (.cells X0.cells 27)) hb)
  clear hb
  have y12 : w3.cell? ⟨w.heap.size, 12, none⟩ = some (.int .u8 k.st) := (cell_of_row _ _ _ _ _ _ Kw3.out).trans (lk_st k)
  refine wp_region_held_drew (S := fun w' => Below w3.heap.size w3 w') (by kernel_rfl) ((Below.refl _ _).drew) (fun hHeld => ?_)
  refine wpAnyH_take (i := 0) (v := .agg X0.cells) rfl (by kernel_rfl) (by kernel_rfl) (by kernel_rfl) (fun _ _ _ h => h) (yields_sub (by rfl) 27 _ rfl (w1.heap.size) 0 (by rfl) X0.cells _ (fun w' h' => range_row (row_below h' Xw3.out)) Try.underlying27 rfl HX0.out) (by assumption) ?_
  simp only [Act.put, List.setIfInBounds_toArray, List.set_cons_zero, List.set_cons_succ, List.getElem_toArray, List.getElem_cons_succ, List.getElem_cons_zero]
  refine wpAnyH_take (i := 1) (v := .agg X0.cells) rfl (by kernel_rfl) (by kernel_rfl) (by kernel_rfl) (fun _ _ _ h => h) (yields_sub (by rfl) 27 _ rfl (w2.heap.size) 0 (by rfl) X0.cells _ (fun w' h' => range_row (row_below h' Yw3.out)) Try.underlying27 rfl HX0.out) (by assumption) ?_
  simp only [Act.put, List.setIfInBounds_toArray, List.set_cons_zero, List.set_cons_succ, List.getElem_toArray, List.getElem_cons_succ, List.getElem_cons_zero]
  refine wpAnyH_take (i := 2) (v := .bool false) rfl (by kernel_rfl) (by kernel_rfl) (by kernel_rfl) (fun _ _ _ h => h) (Or.inl ⟨by rfl, by intro w hSw; clear hHeld hSw; go_simp; (try rfl)⟩) (by assumption) ?_
  simp only [Act.put, List.setIfInBounds_toArray, List.set_cons_zero, List.set_cons_succ, List.getElem_toArray, List.getElem_cons_succ, List.getElem_cons_zero]
  refine wpAnyH_take (i := 3) (v := .bool false) rfl (by kernel_rfl) (by kernel_rfl) (by kernel_rfl) (fun _ _ _ h => h) (Or.inl ⟨by rfl, by intro w hSw; clear hHeld hSw; go_simp; (try rfl)⟩) (by assumption) ?_
  simp only [Act.put, List.setIfInBounds_toArray, List.set_cons_zero, List.set_cons_succ, List.getElem_toArray, List.getElem_cons_succ, List.getElem_cons_zero]
  refine wpAnyH_take (i := 4) (v := .int .i64 e0) rfl (by kernel_rfl) (by kernel_rfl) (by kernel_rfl) (fun _ _ _ h => h) (Or.inl ⟨by rfl, by intro w hSw; clear hHeld hSw; go_simp; (try rfl)⟩) (by assumption) ?_
  simp only [Act.put, List.setIfInBounds_toArray, List.set_cons_zero, List.set_cons_succ, List.getElem_toArray, List.getElem_cons_succ, List.getElem_cons_zero]
  refine wpAnyH_take (i := 5) (v := .int .i64 e0) rfl (by kernel_rfl) (by kernel_rfl) (by kernel_rfl) (fun _ _ _ h => h) (Or.inl ⟨by rfl, by intro w hSw; clear hHeld hSw; go_simp; (try rfl)⟩) (by assumption) ?_
  simp only [Act.put, List.setIfInBounds_toArray, List.set_cons_zero, List.set_cons_succ, List.getElem_toArray, List.getElem_cons_succ, List.getElem_cons_zero]
  refine wpAnyH_take (i := 6) (v := .bool false) rfl (by kernel_rfl) (by kernel_rfl) (by kernel_rfl) (fun _ _ _ h => h) (Or.inl ⟨by rfl, by intro w hSw; clear hHeld hSw; go_simp; (try rfl)⟩) (by assumption) ?_
  simp only [Act.put, List.setIfInBounds_toArray, List.set_cons_zero, List.set_cons_succ, List.getElem_toArray, List.getElem_cons_succ, List.getElem_cons_zero]
  refine wpAnyH_take (i := 7) (v := .bool false) rfl (by kernel_rfl) (by kernel_rfl) (by kernel_rfl) (fun _ _ _ h => h) (Or.inl ⟨by rfl, by intro w hSw; clear hHeld hSw; go_simp; (try rfl)⟩) (by assumption) ?_
  simp only [Act.put, List.setIfInBounds_toArray, List.set_cons_zero, List.set_cons_succ, List.getElem_toArray, List.getElem_cons_succ, List.getElem_cons_zero]
  refine wpAnyH_take (i := 8) (v := .bool false) rfl (by kernel_rfl) (by kernel_rfl) (by kernel_rfl) (fun _ _ _ h => h) (Or.inl ⟨by rfl, by intro w hSw; clear hHeld hSw; go_simp; (try rfl)⟩) (by assumption) ?_
  simp only [Act.put, List.setIfInBounds_toArray, List.set_cons_zero, List.set_cons_succ, List.getElem_toArray, List.getElem_cons_succ, List.getElem_cons_zero]
  refine wpAnyH_take (i := 9) (v := .agg k.cells) rfl (by kernel_rfl) (by kernel_rfl) (by kernel_rfl) (fun _ _ _ h => h) (yields_sub (by rfl) 27 _ rfl (w.heap.size) 0 (by rfl) k.cells _ (fun w' h' => range_row (row_below h' Kw3.out)) Try.underlying27 rfl HIk.out) (by assumption) ?_
  simp only [Act.put, List.setIfInBounds_toArray, List.set_cons_zero, List.set_cons_succ, List.getElem_toArray, List.getElem_cons_succ, List.getElem_cons_zero]
  refine wpAnyH_take (i := 11) (v := .agg k.cells) rfl (by kernel_rfl) (by kernel_rfl) (by kernel_rfl) (fun _ _ _ h => h) (yields_sub (by rfl) 27 _ rfl (w.heap.size) 0 (by rfl) k.cells _ (fun w' h' => range_row (row_below h' Kw3.out)) Try.underlying27 rfl HIk.out) (by assumption) ?_
  simp only [Act.put, List.setIfInBounds_toArray, List.set_cons_zero, List.set_cons_succ, List.getElem_toArray, List.getElem_cons_succ, List.getElem_cons_zero]
  refine wpAnyH_ready (rs := [10]) (by kernel_rfl) (by simp) ?_
  refine AllReadyH.cons (i := 10) (rs := []) rfl ?_ AllReadyH.nil
  intro Kq hKq
  simp only [List.getElem_toArray, List.getElem_cons_succ, List.getElem_cons_zero]
  rw [if_pos (by rfl)]
  refine wp_call_fn 14 #[.agg k.cells] (_) (by as_aux_lemma => kernel_rfl) (CC.out _) ?_
  rintro e wa ⟨rfl, hb⟩
  refine ⟨.int .i64 kc, rfl, ?_⟩
  refine hKq.out _ _ ((hHeld.trans (hb.mono hHeld.size))) (fun hHeld2 => ?_)
  clear hKq Kq hHeld
  have hHeld := hHeld2
  clear hHeld2
  simp only [Act.put, List.setIfInBounds_toArray, List.set_cons_zero, List.set_cons_succ]
  clear hb
  refine wpAnyH_ready (rs := [12]) (by kernel_rfl) (by simp) ?_
  refine AllReadyH.cons (i := 12) (rs := []) rfl ?_ AllReadyH.nil
  intro Kq hKq
  simp only [List.getElem_toArray, List.getElem_cons_succ, List.getElem_cons_zero]
  rw [if_pos (by rfl)]
  refine wp_call_fn 32 #[.agg k.cells] (_) (by as_aux_lemma => kernel_rfl) (RC.out _) ?_
  rintro e wb ⟨rfl, hb⟩
  refine ⟨.int .i64 kc, rfl, ?_⟩
  refine hKq.out _ _ ((hHeld.trans (hb.mono hHeld.size))) (fun hHeld2 => ?_)
  clear hKq Kq hHeld
  have hHeld := hHeld2
  clear hHeld2
  simp only [Act.put, List.setIfInBounds_toArray, List.set_cons_zero, List.set_cons_succ]
  clear hb
  refine wpAnyH_take (i := 13) (v := .bool false) rfl (by kernel_rfl) (by kernel_rfl) (by kernel_rfl) (fun _ _ _ h => h) (Or.inl ⟨by rfl, by intro w hSw; clear hHeld hSw; go_simp; (try rfl)⟩) (by assumption) ?_
  simp only [Act.put, List.setIfInBounds_toArray, List.set_cons_zero, List.set_cons_succ, List.getElem_toArray, List.getElem_cons_succ, List.getElem_cons_zero]
  refine wpAnyH_take (i := 14) (v := .bool false) rfl (by kernel_rfl) (by kernel_rfl) (by kernel_rfl) (fun _ _ _ h => h) (Or.inl ⟨by rfl, by intro w hSw; clear hHeld hSw; go_simp; (try rfl)⟩) (by assumption) ?_
  simp only [Act.put, List.setIfInBounds_toArray, List.set_cons_zero, List.set_cons_succ, List.getElem_toArray, List.getElem_cons_succ, List.getElem_cons_zero]
  refine wpAnyH_take (i := 15) (v := .bool false) rfl (by kernel_rfl) (by kernel_rfl) (by kernel_rfl) (fun _ _ _ h => h) (Or.inl ⟨by rfl, by intro w hSw; clear hHeld hSw; go_simp; (try rfl)⟩) (by assumption) ?_
  simp only [Act.put, List.setIfInBounds_toArray, List.set_cons_zero, List.set_cons_succ, List.getElem_toArray, List.getElem_cons_succ, List.getElem_cons_zero]
  refine wpAnyH_take (i := 16) (v := .agg k.cells) rfl (by kernel_rfl) (by kernel_rfl) (by kernel_rfl) (fun _ _ _ h => h) (yields_sub (by rfl) 27 _ rfl (w.heap.size) 0 (by rfl) k.cells _ (fun w' h' => range_row (row_below h' Kw3.out)) Try.underlying27 rfl HIk.out) (by assumption) ?_
  simp only [Act.put, List.setIfInBounds_toArray, List.set_cons_zero, List.set_cons_succ, List.getElem_toArray, List.getElem_cons_succ, List.getElem_cons_zero]
  refine wpAnyH_take (i := 18) (v := .pointer (some ⟨w.heap.size, 12, none⟩)) rfl (by kernel_rfl) (by kernel_rfl) (by kernel_rfl) (fun _ _ _ h => h) (Or.inl ⟨by rfl, by intro w hSw; clear hHeld hSw; go_simp; (try rfl)⟩) (by assumption) ?_
  simp only [Act.put, List.setIfInBounds_toArray, List.set_cons_zero, List.set_cons_succ, List.getElem_toArray, List.getElem_cons_succ, List.getElem_cons_zero]
  refine wpAnyH_take (i := 19) (v := .int .u8 k.st) rfl (by kernel_rfl) (by kernel_rfl) (by kernel_rfl) (fun _ _ _ h => h) (Or.inl ⟨by rfl, by intro w hSw; have tq := below_kept hSw y12; clear hHeld hSw; go_simp⟩) (by assumption) ?_
  simp only [Act.put, List.setIfInBounds_toArray, List.set_cons_zero, List.set_cons_succ, List.getElem_toArray, List.getElem_cons_succ, List.getElem_cons_zero]
  refine wpAnyH_take (i := 20) (v := .bool (k.st == 4)) rfl (by kernel_rfl) (by kernel_rfl) (by kernel_rfl) (fun _ _ _ h => h) (Or.inl ⟨by rfl, by intro w hSw; clear hHeld hSw; go_simp; (try rfl)⟩) (by assumption) ?_
  simp only [Act.put, List.setIfInBounds_toArray, List.set_cons_zero, List.set_cons_succ, List.getElem_toArray, List.getElem_cons_succ, List.getElem_cons_zero]
  refine wpAnyH_ready (rs := [17]) (by kernel_rfl) (by simp) ?_
  refine AllReadyH.cons (i := 17) (rs := []) rfl ?_ AllReadyH.nil
  intro Kq hKq
  simp only [List.getElem_toArray, List.getElem_cons_succ, List.getElem_cons_zero]
  rw [if_pos (by rfl)]
  refine wp_call_fn 15 #[.agg k.cells] (_) (by as_aux_lemma => kernel_rfl) (up_any k _) ?_
  rintro e wc ⟨rfl, hb⟩
  refine ⟨.bool (k.st == 4), rfl, ?_⟩
  refine hKq.out _ _ ((hHeld.trans (hb.mono hHeld.size))) (fun hHeld2 => ?_)
  clear hKq Kq hHeld
  have hHeld := hHeld2
  clear hHeld2
  simp only [Act.put, List.setIfInBounds_toArray, List.set_cons_zero, List.set_cons_succ]
  clear hb
  refine wpAnyH_take (i := 21) (v := .bool false) rfl (by kernel_rfl) (by kernel_rfl) (by kernel_rfl) (fun _ _ _ h => h) (Or.inl ⟨by rfl, by intro w hSw; clear hHeld hSw; go_simp; (try rfl)⟩) (by assumption) ?_
  simp only [Act.put, List.setIfInBounds_toArray, List.set_cons_zero, List.set_cons_succ, List.getElem_toArray, List.getElem_cons_succ, List.getElem_cons_zero]
  refine wpAnyH_take (i := 22) (v := .bool false) rfl (by kernel_rfl) (by kernel_rfl) (by kernel_rfl) (fun _ _ _ h => h) (Or.inl ⟨by rfl, by intro w hSw; clear hHeld hSw; go_simp; (try rfl)⟩) (by assumption) ?_
  simp only [Act.put, List.setIfInBounds_toArray, List.set_cons_zero, List.set_cons_succ, List.getElem_toArray, List.getElem_cons_succ, List.getElem_cons_zero]
  have HBC := Lib.hid hHeld
  clear hHeld
  refine wpAnyH_done (by kernel_rfl) ?_ _
  clear y12
  have Kwc := Lib.hid (show wc.heap[w.heap.size]? = some (.cells k.cells 27) from row_below HBC.out Kw3.out)
  have lKwc : w.heap.size < wc.heap.size := row_lt Kwc.out
  have Xwc := Lib.hid (show wc.heap[w1.heap.size]? = some (.cells X0.cells 27) from row_below HBC.out Xw3.out)
  have lXwc : w1.heap.size < wc.heap.size := row_lt Xwc.out
  have Ywc := Lib.hid (show wc.heap[w2.heap.size]? = some (.cells X0.cells 27) from row_below HBC.out Yw3.out)
  have lYwc : w2.heap.size < wc.heap.size := row_lt Ywc.out
  have HBwc := Lib.hid (below_step HBw3.out HBC.out)
  clear HBC
  go_upto_region 8 with (refine wpList_append_bytes rfl (some 64) rfl (.tmp 62) (.tmp 63) rfl wc.heap.size (heap_alloc_new _ _) rfl (.slice ao m.length cap) m rfl ((HM.out.below HBwc.out).below ((Below.refl _ _).alloc (Nat.le_refl _) _)) (by omega) ?_; intro v5 wo5 hby5 hg5)
  have hb := ((Below.refl wc.heap.size wc).alloc (Nat.le_refl _) (.cells #[] 5)).trans (grownBy_below hg5 (by simp only [World.size_alloc]; omega) (fun k e => by cases e; exact Nat.le_refl _))
  obtain ⟨g, gcap, gcs, rfl, hgc, hgb, hgs, hgr, hgx⟩ := hby5
  clear hg5
  have Kwo5 := Lib.hid (show wo5.heap[w.heap.size]? = some (.cells k.cells 27) from row_below hb Kwc.out)
  have lKwo5 : w.heap.size < wo5.heap.size := row_lt Kwo5.out
  have Xwo5 := Lib.hid (show wo5.heap[w1.heap.size]? = some (.cells X0.cells 27) from row_below hb Xwc.out)
  have lXwo5 : w1.heap.size < wo5.heap.size := row_lt Xwo5.out
  have Ywo5 := Lib.hid (show wo5.heap[w2.heap.size]? = some (.cells X0.cells 27) from row_below hb Ywc.out)
  have lYwo5 : w2.heap.size < wo5.heap.size := row_lt Ywo5.out
  have HBwo5 := Lib.hid (below_step HBwc.out hb)
  clear hb
  have HGX := Lib.hid hgx
  clear hgx
  have HGR := Lib.hid hgr
  clear hgr
  have nK_OWN : w.heap.size < g := Nat.lt_of_lt_of_le lKwc hgb
  have nX_OWN : w1.heap.size < g := Nat.lt_of_lt_of_le lXwc hgb
  have nY_OWN : w2.heap.size < g := Nat.lt_of_lt_of_le lYwc hgb
  have lOWNwo5 : g < wo5.heap.size := hgs
  go_wp2_with ((with_reducible refine wpList_load_row rfl 27 (.tmp 3) rfl (w.heap.size) rfl 27 (k.cells) (0, 0) _ Kwo5.out Try.underlying27 rfl HIk.out ?_))
  refine (CP1.out _).mono ?_
  rintro e w4 ⟨vw4, rfl, hO, hb⟩
  have Kw4 := Lib.hid (show w4.heap[w.heap.size]? = some (.cells k.cells 27) from row_below hb Kwo5.out)
  have lKw4 : w.heap.size < w4.heap.size := row_lt Kw4.out
  have OWNw4 := Lib.hid (show w4.heap[g]? = some (.cells gcs 5) from row_below hb HGR.out)
  have lOWNw4 : g < w4.heap.size := row_lt OWNw4.out
  have HBw4 := Lib.hid (below_step HBwo5.out hb)
  clear hb
  have mLP1_K : w.heap.size < wo5.heap.size := lKwo5
  have mLP1_OWN : g < wo5.heap.size := lOWNwo5
  have hqLP1 : ListOk (fun b => wo5.heap.size ≤ b) w4 vw4 l1 := (hO.listOk FM1.out (Nat.le_trans hq1 (by unfold maxLen; decide))).mono (fun b q => Nat.le_trans (by first | exact Nat.le_refl _ | (simp only [World.size_alloc, size_setRow]; exact Nat.le_refl _)) q)
  obtain ⟨aoLP1, cLP1, rfl, hq1LP1, hq2LP1, hq3LP1⟩ := hqLP1
  have LP1w4 := Lib.hid (show ListOk (fun b => wo5.heap.size ≤ b) w4 (.slice aoLP1 l1.length cLP1) l1 from ⟨aoLP1, cLP1, rfl, hq1LP1, hq2LP1, hq3LP1⟩)
  clear hO hq1LP1 hq2LP1 hq3LP1
  have nK_A : w.heap.size < w4.heap.size := lKw4
  have nOWN_A : g < w4.heap.size := lOWNw4
  have gA : w.heap.size ≤ w4.heap.size := by have hh := Below.size HBw4.out; exact hh
  go_wp2_with (first
    | ((with_reducible refine wpList_store_rowTo rfl 27 (.tmp 12) (.tmp 69) rfl rfl (w4.heap.size) (X1.cells) ?_ ?_ 27 #[.int .u8 0, .int .u8 0, .int .u8 0, .int .u8 0, .int .u8 0, .int .u8 0, .int .u8 0, .int .u8 0, .int .u8 0, .int .u8 0, .int .u8 0, .int .u8 0, .int .u8 0, .int .i64 0, .int .i64 0, .int .i64 0, .int .i64 0] (heap_alloc_at rfl) HX1.out rfl (one_cells _) ?_); (as_aux_lemma => kernel_rfl); (as_aux_lemma => kernel_rfl); rw [setRow_allocAt rfl])
    | (with_reducible refine wpList_load_row rfl 27 (.tmp 3) rfl (w.heap.size) rfl 27 (k.cells) (0, 0) _ (row_alloc Kw4.out) Try.underlying27 rfl HIk.out ?_))
  refine (CR1.out _).mono ?_
  rintro e w5 ⟨vw5, rfl, hO, hb⟩
  have Kw5 := Lib.hid (show w5.heap[w.heap.size]? = some (.cells k.cells 27) from row_below hb (row_alloc Kw4.out))
  have lKw5 : w.heap.size < w5.heap.size := row_lt Kw5.out
  have OWNw5 := Lib.hid (show w5.heap[g]? = some (.cells gcs 5) from row_below hb (row_alloc OWNw4.out))
  have lOWNw5 : g < w5.heap.size := row_lt OWNw5.out
  have Aw5 := Lib.hid (show w5.heap[w4.heap.size]? = some (.cells X1.cells 27) from row_below hb (heap_alloc_at rfl))
  have lAw5 : w4.heap.size < w5.heap.size := row_lt Aw5.out
  have LP1w5 := Lib.hid (show ListOk (fun b => wo5.heap.size ≤ b) w5 (.slice aoLP1 l1.length cLP1) l1 from ListOk.keep (ListOk.keep LP1w4.out (kept_below ((Below.refl _ _).alloc (Nat.le_refl _) _))) (kept_below hb))
  have HBw5 := Lib.hid (below_step (below_more HBw4.out (.cells X1.cells 27)) hb)
  clear hb
  have mLR1_K : w.heap.size < w4.heap.size + 1 := Nat.lt_succ_of_lt (lKw4)
  have mLR1_OWN : g < w4.heap.size + 1 := Nat.lt_succ_of_lt (lOWNw4)
  have mLR1_A : w4.heap.size < w4.heap.size + 1 := Nat.lt_succ_self _
  have hqLR1 : ListOk (fun b => w4.heap.size + 1 ≤ b) w5 vw5 l1 := (hO.listOk FM1.out (Nat.le_trans hq1 (by unfold maxLen; decide))).mono (fun b q => Nat.le_trans (by first | exact Nat.le_refl _ | (simp only [World.size_alloc, size_setRow]; exact Nat.le_refl _)) q)
  obtain ⟨aoLR1, cLR1, rfl, hq1LR1, hq2LR1, hq3LR1⟩ := hqLR1
  have LR1w5 := Lib.hid (show ListOk (fun b => w4.heap.size + 1 ≤ b) w5 (.slice aoLR1 l1.length cLR1) l1 from ⟨aoLR1, cLR1, rfl, hq1LR1, hq2LR1, hq3LR1⟩)
  clear hO hq1LR1 hq2LR1 hq3LR1
  have nK_C : w.heap.size < w5.heap.size := lKw5
  have nOWN_C : g < w5.heap.size := lOWNw5
  have nA_C : w4.heap.size < w5.heap.size := lAw5
  have gC : w.heap.size ≤ w5.heap.size := by have hh := Below.size HBw5.out; exact hh
  go_wp2_with (first
    | ((with_reducible refine wpList_store_rowTo rfl 27 (.tmp 14) (.tmp 76) rfl rfl (w5.heap.size) (X1.cells) ?_ ?_ 27 #[.int .u8 0, .int .u8 0, .int .u8 0, .int .u8 0, .int .u8 0, .int .u8 0, .int .u8 0, .int .u8 0, .int .u8 0, .int .u8 0, .int .u8 0, .int .u8 0, .int .u8 0, .int .i64 0, .int .i64 0, .int .i64 0, .int .i64 0] (heap_alloc_at rfl) HX1.out rfl (one_cells _) ?_); (as_aux_lemma => kernel_rfl); (as_aux_lemma => kernel_rfl); rw [setRow_allocAt rfl])
    | (with_reducible refine wpList_load_row rfl 27 (.tmp 12) rfl (w4.heap.size) rfl 27 (X1.cells) (0, 0) _ (row_alloc Aw5.out) Try.underlying27 rfl HX1.out ?_)
    | (with_reducible refine wpList_load_row rfl 27 (.tmp 14) rfl (w5.heap.size) rfl 27 (X1.cells) (0, 0) _ (heap_alloc_at rfl) Try.underlying27 rfl HX1.out ?_))
  refine (same_yes _ _ _ _ rfl _ (ListOk.keep LP1w5.out (kept_below ((Below.refl _ _).alloc (Nat.le_refl _) _))).listIn (ListOk.keep LR1w5.out (kept_below ((Below.refl _ _).alloc (Nat.le_refl _) _))).listIn).mono ?_
  rintro e w6 ⟨rfl, hb⟩
  have Kw6 := Lib.hid (show w6.heap[w.heap.size]? = some (.cells k.cells 27) from row_below hb (row_alloc Kw5.out))
  have lKw6 : w.heap.size < w6.heap.size := row_lt Kw6.out
  have OWNw6 := Lib.hid (show w6.heap[g]? = some (.cells gcs 5) from row_below hb (row_alloc OWNw5.out))
  have lOWNw6 : g < w6.heap.size := row_lt OWNw6.out
  have Aw6 := Lib.hid (show w6.heap[w4.heap.size]? = some (.cells X1.cells 27) from row_below hb (row_alloc Aw5.out))
  have lAw6 : w4.heap.size < w6.heap.size := row_lt Aw6.out
  have Cw6 := Lib.hid (show w6.heap[w5.heap.size]? = some (.cells X1.cells 27) from row_below hb (heap_alloc_at rfl))
  have lCw6 : w5.heap.size < w6.heap.size := row_lt Cw6.out
  have LP1w6 := Lib.hid (show ListOk (fun b => wo5.heap.size ≤ b) w6 (.slice aoLP1 l1.length cLP1) l1 from ListOk.keep (ListOk.keep LP1w5.out (kept_below ((Below.refl _ _).alloc (Nat.le_refl _) _))) (kept_below hb))
  have LR1w6 := Lib.hid (show ListOk (fun b => w4.heap.size + 1 ≤ b) w6 (.slice aoLR1 l1.length cLR1) l1 from ListOk.keep (ListOk.keep LR1w5.out (kept_below ((Below.refl _ _).alloc (Nat.le_refl _) _))) (kept_below hb))
  have HBw6 := Lib.hid (below_step (below_more HBw5.out (.cells X1.cells 27)) hb)
  clear hb
  go_wp2_with ((with_reducible refine wpList_load_row rfl 27 (.tmp 3) rfl (w.heap.size) rfl 27 (k.cells) (0, 0) _ Kw6.out Try.underlying27 rfl HIk.out ?_))
  refine (CP2.out _).mono ?_
  rintro e w7 ⟨vw7, rfl, hO, hb⟩
  have Kw7 := Lib.hid (show w7.heap[w.heap.size]? = some (.cells k.cells 27) from row_below hb Kw6.out)
  have lKw7 : w.heap.size < w7.heap.size := row_lt Kw7.out
  have OWNw7 := Lib.hid (show w7.heap[g]? = some (.cells gcs 5) from row_below hb OWNw6.out)
  have lOWNw7 : g < w7.heap.size := row_lt OWNw7.out
  have Aw7 := Lib.hid (show w7.heap[w4.heap.size]? = some (.cells X1.cells 27) from row_below hb Aw6.out)
  have lAw7 : w4.heap.size < w7.heap.size := row_lt Aw7.out
  have Cw7 := Lib.hid (show w7.heap[w5.heap.size]? = some (.cells X1.cells 27) from row_below hb Cw6.out)
  have lCw7 : w5.heap.size < w7.heap.size := row_lt Cw7.out
  have HBw7 := Lib.hid (below_step HBw6.out hb)
  clear hb
  have mLP2_K : w.heap.size < w6.heap.size := lKw6
  have mLP2_OWN : g < w6.heap.size := lOWNw6
  have mLP2_A : w4.heap.size < w6.heap.size := lAw6
  have mLP2_C : w5.heap.size < w6.heap.size := lCw6
  have hqLP2 : ListOk (fun b => w6.heap.size ≤ b) w7 vw7 l2 := (hO.listOk FM2.out (Nat.le_trans hq2 (by unfold maxLen; decide))).mono (fun b q => Nat.le_trans (by first | exact Nat.le_refl _ | (simp only [World.size_alloc, size_setRow]; exact Nat.le_refl _)) q)
  obtain ⟨aoLP2, cLP2, rfl, hq1LP2, hq2LP2, hq3LP2⟩ := hqLP2
  have LP2w7 := Lib.hid (show ListOk (fun b => w6.heap.size ≤ b) w7 (.slice aoLP2 l2.length cLP2) l2 from ⟨aoLP2, cLP2, rfl, hq1LP2, hq2LP2, hq3LP2⟩)
  clear hO hq1LP2 hq2LP2 hq3LP2
  go_wp2_with (first
    | ((with_reducible refine wpList_store_rowTo rfl 27 (.tmp 12) (.tmp 97) rfl rfl (w4.heap.size) (X2.cells) ?_ ?_ 27 (X1.cells) Aw7.out HX2.out rfl (one_cells _) ?_); (as_aux_lemma => kernel_rfl); (as_aux_lemma => kernel_rfl))
    | (with_reducible refine wpList_load_row rfl 27 (.tmp 3) rfl (w.heap.size) rfl 27 (k.cells) (0, 0) _ ((setRow_other _ _ _ _ (Nat.ne_of_lt nK_A)).trans Kw7.out) Try.underlying27 rfl HIk.out ?_))
  refine (CR2.out _).mono ?_
  rintro e w8 ⟨vw8, rfl, hO, hb⟩
  have Kw8 := Lib.hid (show w8.heap[w.heap.size]? = some (.cells k.cells 27) from row_below hb ((setRow_other _ _ _ _ (Nat.ne_of_lt nK_A)).trans Kw7.out))
  have lKw8 : w.heap.size < w8.heap.size := row_lt Kw8.out
  have OWNw8 := Lib.hid (show w8.heap[g]? = some (.cells gcs 5) from row_below hb ((setRow_other _ _ _ _ (Nat.ne_of_lt nOWN_A)).trans OWNw7.out))
  have lOWNw8 : g < w8.heap.size := row_lt OWNw8.out
  have Aw8 := Lib.hid (show w8.heap[w4.heap.size]? = some (.cells X2.cells 27) from row_below hb (setRow_heap _ _ _ _ _ _ Aw7.out))
  have lAw8 : w4.heap.size < w8.heap.size := row_lt Aw8.out
  have Cw8 := Lib.hid (show w8.heap[w5.heap.size]? = some (.cells X1.cells 27) from row_below hb ((setRow_other _ _ _ _ (Nat.ne_of_gt nA_C)).trans Cw7.out))
  have lCw8 : w5.heap.size < w8.heap.size := row_lt Cw8.out
  have LP2w8 := Lib.hid (show ListOk (fun b => w6.heap.size ≤ b) w8 (.slice aoLP2 l2.length cLP2) l2 from ListOk.keep (ListOk.keep LP2w7.out (kept_setRow (Nat.not_le_of_lt mLP2_A))) (kept_below hb))
  have HBw8 := Lib.hid (below_step (below_setRow' HBw7.out gA _) hb)
  clear hb
  have mLR2_K : w.heap.size < w7.heap.size := lKw7
  have mLR2_OWN : g < w7.heap.size := lOWNw7
  have mLR2_A : w4.heap.size < w7.heap.size := lAw7
  have mLR2_C : w5.heap.size < w7.heap.size := lCw7
  have hqLR2 : ListOk (fun b => w7.heap.size ≤ b) w8 vw8 l2 := (hO.listOk FM2.out (Nat.le_trans hq2 (by unfold maxLen; decide))).mono (fun b q => Nat.le_trans (by first | exact Nat.le_refl _ | (simp only [World.size_alloc, size_setRow]; exact Nat.le_refl _)) q)
  obtain ⟨aoLR2, cLR2, rfl, hq1LR2, hq2LR2, hq3LR2⟩ := hqLR2
  have LR2w8 := Lib.hid (show ListOk (fun b => w7.heap.size ≤ b) w8 (.slice aoLR2 l2.length cLR2) l2 from ⟨aoLR2, cLR2, rfl, hq1LR2, hq2LR2, hq3LR2⟩)
  clear hO hq1LR2 hq2LR2 hq3LR2
  go_wp2_with (first
    | ((with_reducible refine wpList_store_rowTo rfl 27 (.tmp 14) (.tmp 104) rfl rfl (w5.heap.size) (X2.cells) ?_ ?_ 27 (X1.cells) Cw8.out HX2.out rfl (one_cells _) ?_); (as_aux_lemma => kernel_rfl); (as_aux_lemma => kernel_rfl))
    | (with_reducible refine wpList_load_row rfl 27 (.tmp 12) rfl (w4.heap.size) rfl 27 (X2.cells) (0, 0) _ ((setRow_other _ _ _ _ (Nat.ne_of_lt nA_C)).trans Aw8.out) Try.underlying27 rfl HX2.out ?_)
    | (with_reducible refine wpList_load_row rfl 27 (.tmp 14) rfl (w5.heap.size) rfl 27 (X2.cells) (0, 0) _ (setRow_heap _ _ _ _ _ _ Cw8.out) Try.underlying27 rfl HX2.out ?_))
  refine (same_yes _ _ _ _ rfl _ (ListOk.keep LP2w8.out (kept_setRow (Nat.not_le_of_lt mLP2_C))).listIn (ListOk.keep LR2w8.out (kept_setRow (Nat.not_le_of_lt mLR2_C))).listIn).mono ?_
  rintro e w9 ⟨rfl, hb⟩
  have Kw9 := Lib.hid (show w9.heap[w.heap.size]? = some (.cells k.cells 27) from row_below hb ((setRow_other _ _ _ _ (Nat.ne_of_lt nK_C)).trans Kw8.out))
  have lKw9 : w.heap.size < w9.heap.size := row_lt Kw9.out
  have OWNw9 := Lib.hid (show w9.heap[g]? = some (.cells gcs 5) from row_below hb ((setRow_other _ _ _ _ (Nat.ne_of_lt nOWN_C)).trans OWNw8.out))
  have lOWNw9 : g < w9.heap.size := row_lt OWNw9.out
  have Aw9 := Lib.hid (show w9.heap[w4.heap.size]? = some (.cells X2.cells 27) from row_below hb ((setRow_other _ _ _ _ (Nat.ne_of_lt nA_C)).trans Aw8.out))
  have lAw9 : w4.heap.size < w9.heap.size := row_lt Aw9.out
  have Cw9 := Lib.hid (show w9.heap[w5.heap.size]? = some (.cells X2.cells 27) from row_below hb (setRow_heap _ _ _ _ _ _ Cw8.out))
  have lCw9 : w5.heap.size < w9.heap.size := row_lt Cw9.out
  have LP2w9 := Lib.hid (show ListOk (fun b => w6.heap.size ≤ b) w9 (.slice aoLP2 l2.length cLP2) l2 from ListOk.keep (ListOk.keep LP2w8.out (kept_setRow (Nat.not_le_of_lt mLP2_C))) (kept_below hb))
  have LR2w9 := Lib.hid (show ListOk (fun b => w7.heap.size ≤ b) w9 (.slice aoLR2 l2.length cLR2) l2 from ListOk.keep (ListOk.keep LR2w8.out (kept_setRow (Nat.not_le_of_lt mLR2_C))) (kept_below hb))
  have HBw9 := Lib.hid (below_step (below_setRow' HBw8.out gC _) hb)
  clear hb
  go_wp2_with ((with_reducible refine wpList_load_row rfl 27 (.tmp 3) rfl (w.heap.size) rfl 27 (k.cells) (0, 0) _ Kw9.out Try.underlying27 rfl HIk.out ?_))
  refine (CP3.out _).mono ?_
  rintro e w10 ⟨vw10, rfl, hO, hb⟩
  have Kw10 := Lib.hid (show w10.heap[w.heap.size]? = some (.cells k.cells 27) from row_below hb Kw9.out)
  have lKw10 : w.heap.size < w10.heap.size := row_lt Kw10.out
  have OWNw10 := Lib.hid (show w10.heap[g]? = some (.cells gcs 5) from row_below hb OWNw9.out)
  have lOWNw10 : g < w10.heap.size := row_lt OWNw10.out
  have Aw10 := Lib.hid (show w10.heap[w4.heap.size]? = some (.cells X2.cells 27) from row_below hb Aw9.out)
  have lAw10 : w4.heap.size < w10.heap.size := row_lt Aw10.out
  have Cw10 := Lib.hid (show w10.heap[w5.heap.size]? = some (.cells X2.cells 27) from row_below hb Cw9.out)
  have lCw10 : w5.heap.size < w10.heap.size := row_lt Cw10.out
  have HBw10 := Lib.hid (below_step HBw9.out hb)
  clear hb
  have mLP3_K : w.heap.size < w9.heap.size := lKw9
  have mLP3_OWN : g < w9.heap.size := lOWNw9
  have mLP3_A : w4.heap.size < w9.heap.size := lAw9
  have mLP3_C : w5.heap.size < w9.heap.size := lCw9
  have hqLP3 : ListOk (fun b => w9.heap.size ≤ b) w10 vw10 l3 := (hO.listOk FM3.out (Nat.le_trans hq3 (by unfold maxLen; decide))).mono (fun b q => Nat.le_trans (by first | exact Nat.le_refl _ | (simp only [World.size_alloc, size_setRow]; exact Nat.le_refl _)) q)
  obtain ⟨aoLP3, cLP3, rfl, hq1LP3, hq2LP3, hq3LP3⟩ := hqLP3
  have LP3w10 := Lib.hid (show ListOk (fun b => w9.heap.size ≤ b) w10 (.slice aoLP3 l3.length cLP3) l3 from ⟨aoLP3, cLP3, rfl, hq1LP3, hq2LP3, hq3LP3⟩)
  clear hO hq1LP3 hq2LP3 hq3LP3
  go_wp2_with (first
    | ((with_reducible refine wpList_store_rowTo rfl 27 (.tmp 12) (.tmp 125) rfl rfl (w4.heap.size) (X3.cells) ?_ ?_ 27 (X2.cells) Aw10.out HX3.out rfl (one_cells _) ?_); (as_aux_lemma => kernel_rfl); (as_aux_lemma => kernel_rfl))
    | (with_reducible refine wpList_load_row rfl 27 (.tmp 3) rfl (w.heap.size) rfl 27 (k.cells) (0, 0) _ ((setRow_other _ _ _ _ (Nat.ne_of_lt nK_A)).trans Kw10.out) Try.underlying27 rfl HIk.out ?_))
  refine (CR3.out _).mono ?_
  rintro e w11 ⟨vw11, rfl, hO, hb⟩
  have Kw11 := Lib.hid (show w11.heap[w.heap.size]? = some (.cells k.cells 27) from row_below hb ((setRow_other _ _ _ _ (Nat.ne_of_lt nK_A)).trans Kw10.out))
  have lKw11 : w.heap.size < w11.heap.size := row_lt Kw11.out
  have OWNw11 := Lib.hid (show w11.heap[g]? = some (.cells gcs 5) from row_below hb ((setRow_other _ _ _ _ (Nat.ne_of_lt nOWN_A)).trans OWNw10.out))
  have lOWNw11 : g < w11.heap.size := row_lt OWNw11.out
  have Aw11 := Lib.hid (show w11.heap[w4.heap.size]? = some (.cells X3.cells 27) from row_below hb (setRow_heap _ _ _ _ _ _ Aw10.out))
  have lAw11 : w4.heap.size < w11.heap.size := row_lt Aw11.out
  have Cw11 := Lib.hid (show w11.heap[w5.heap.size]? = some (.cells X2.cells 27) from row_below hb ((setRow_other _ _ _ _ (Nat.ne_of_gt nA_C)).trans Cw10.out))
  have lCw11 : w5.heap.size < w11.heap.size := row_lt Cw11.out
  have LP3w11 := Lib.hid (show ListOk (fun b => w9.heap.size ≤ b) w11 (.slice aoLP3 l3.length cLP3) l3 from ListOk.keep (ListOk.keep LP3w10.out (kept_setRow (Nat.not_le_of_lt mLP3_A))) (kept_below hb))
  have HBw11 := Lib.hid (below_step (below_setRow' HBw10.out gA _) hb)
  clear hb
  have mLR3_K : w.heap.size < w10.heap.size := lKw10
  have mLR3_OWN : g < w10.heap.size := lOWNw10
  have mLR3_A : w4.heap.size < w10.heap.size := lAw10
  have mLR3_C : w5.heap.size < w10.heap.size := lCw10
  have hqLR3 : ListOk (fun b => w10.heap.size ≤ b) w11 vw11 l3 := (hO.listOk FM3.out (Nat.le_trans hq3 (by unfold maxLen; decide))).mono (fun b q => Nat.le_trans (by first | exact Nat.le_refl _ | (simp only [World.size_alloc, size_setRow]; exact Nat.le_refl _)) q)
  obtain ⟨aoLR3, cLR3, rfl, hq1LR3, hq2LR3, hq3LR3⟩ := hqLR3
  have LR3w11 := Lib.hid (show ListOk (fun b => w10.heap.size ≤ b) w11 (.slice aoLR3 l3.length cLR3) l3 from ⟨aoLR3, cLR3, rfl, hq1LR3, hq2LR3, hq3LR3⟩)
  clear hO hq1LR3 hq2LR3 hq3LR3
  go_wp2_with (first
    | ((with_reducible refine wpList_store_rowTo rfl 27 (.tmp 14) (.tmp 132) rfl rfl (w5.heap.size) (X3.cells) ?_ ?_ 27 (X2.cells) Cw11.out HX3.out rfl (one_cells _) ?_); (as_aux_lemma => kernel_rfl); (as_aux_lemma => kernel_rfl))
    | (with_reducible refine wpList_load_row rfl 27 (.tmp 12) rfl (w4.heap.size) rfl 27 (X3.cells) (0, 0) _ ((setRow_other _ _ _ _ (Nat.ne_of_lt nA_C)).trans Aw11.out) Try.underlying27 rfl HX3.out ?_)
    | (with_reducible refine wpList_load_row rfl 27 (.tmp 14) rfl (w5.heap.size) rfl 27 (X3.cells) (0, 0) _ (setRow_heap _ _ _ _ _ _ Cw11.out) Try.underlying27 rfl HX3.out ?_))
  refine (same_yes _ _ _ _ rfl _ (ListOk.keep LP3w11.out (kept_setRow (Nat.not_le_of_lt mLP3_C))).listIn (ListOk.keep LR3w11.out (kept_setRow (Nat.not_le_of_lt mLR3_C))).listIn).mono ?_
  rintro e w12 ⟨rfl, hb⟩
  have Kw12 := Lib.hid (show w12.heap[w.heap.size]? = some (.cells k.cells 27) from row_below hb ((setRow_other _ _ _ _ (Nat.ne_of_lt nK_C)).trans Kw11.out))
  have lKw12 : w.heap.size < w12.heap.size := row_lt Kw12.out
  have OWNw12 := Lib.hid (show w12.heap[g]? = some (.cells gcs 5) from row_below hb ((setRow_other _ _ _ _ (Nat.ne_of_lt nOWN_C)).trans OWNw11.out))
  have lOWNw12 : g < w12.heap.size := row_lt OWNw12.out
  have Aw12 := Lib.hid (show w12.heap[w4.heap.size]? = some (.cells X3.cells 27) from row_below hb ((setRow_other _ _ _ _ (Nat.ne_of_lt nA_C)).trans Aw11.out))
  have lAw12 : w4.heap.size < w12.heap.size := row_lt Aw12.out
  have Cw12 := Lib.hid (show w12.heap[w5.heap.size]? = some (.cells X3.cells 27) from row_below hb (setRow_heap _ _ _ _ _ _ Cw11.out))
  have lCw12 : w5.heap.size < w12.heap.size := row_lt Cw12.out
  have LP3w12 := Lib.hid (show ListOk (fun b => w9.heap.size ≤ b) w12 (.slice aoLP3 l3.length cLP3) l3 from ListOk.keep (ListOk.keep LP3w11.out (kept_setRow (Nat.not_le_of_lt mLP3_C))) (kept_below hb))
  have LR3w12 := Lib.hid (show ListOk (fun b => w10.heap.size ≤ b) w12 (.slice aoLR3 l3.length cLR3) l3 from ListOk.keep (ListOk.keep LR3w11.out (kept_setRow (Nat.not_le_of_lt mLR3_C))) (kept_below hb))
  have HBw12 := Lib.hid (below_step (below_setRow' HBw11.out gC _) hb)
  clear hb
  go_wp2_with ((with_reducible refine wpList_load_row rfl 27 (.tmp 3) rfl (w.heap.size) rfl 27 (k.cells) (0, 0) _ Kw12.out Try.underlying27 rfl HIk.out ?_))
  refine (CP4.out _ _ (BytesAt.read (base := 0) ⟨g, gcap, gcs, rfl, hgc, Nat.zero_le _, row_lt OWNw12.out, OWNw12.out, HGX.out⟩ hby2.out)).mono ?_
  rintro e w13 ⟨vw13, rfl, hO, hb⟩
  have Kw13 := Lib.hid (show w13.heap[w.heap.size]? = some (.cells k.cells 27) from row_below hb Kw12.out)
  have lKw13 : w.heap.size < w13.heap.size := row_lt Kw13.out
  have OWNw13 := Lib.hid (show w13.heap[g]? = some (.cells gcs 5) from row_below hb OWNw12.out)
  have lOWNw13 : g < w13.heap.size := row_lt OWNw13.out
  have Aw13 := Lib.hid (show w13.heap[w4.heap.size]? = some (.cells X3.cells 27) from row_below hb Aw12.out)
  have lAw13 : w4.heap.size < w13.heap.size := row_lt Aw13.out
  have Cw13 := Lib.hid (show w13.heap[w5.heap.size]? = some (.cells X3.cells 27) from row_below hb Cw12.out)
  have lCw13 : w5.heap.size < w13.heap.size := row_lt Cw13.out
  have HBw13 := Lib.hid (below_step HBw12.out hb)
  clear hb
  have mLP4_K : w.heap.size < w12.heap.size := lKw12
  have mLP4_OWN : g < w12.heap.size := lOWNw12
  have mLP4_A : w4.heap.size < w12.heap.size := lAw12
  have mLP4_C : w5.heap.size < w12.heap.size := lCw12
  have hqLP4 : ListOk (fun b => w12.heap.size ≤ b) w13 vw13 l4 := (hO.listOk FM4.out (Nat.le_trans hq4 (by unfold maxLen; decide))).mono (fun b q => Nat.le_trans (by first | exact Nat.le_refl _ | (simp only [World.size_alloc, size_setRow]; exact Nat.le_refl _)) q)
  obtain ⟨aoLP4, cLP4, rfl, hq1LP4, hq2LP4, hq3LP4⟩ := hqLP4
  have LP4w13 := Lib.hid (show ListOk (fun b => w12.heap.size ≤ b) w13 (.slice aoLP4 l4.length cLP4) l4 from ⟨aoLP4, cLP4, rfl, hq1LP4, hq2LP4, hq3LP4⟩)
  clear hO hq1LP4 hq2LP4 hq3LP4
  go_wp2_with (first
    | ((with_reducible refine wpList_store_rowTo rfl 27 (.tmp 12) (.tmp 154) rfl rfl (w4.heap.size) (X4.cells) ?_ ?_ 27 (X3.cells) Aw13.out HX4.out rfl (one_cells _) ?_); (as_aux_lemma => kernel_rfl); (as_aux_lemma => kernel_rfl))
    | (with_reducible refine wpList_load_row rfl 27 (.tmp 3) rfl (w.heap.size) rfl 27 (k.cells) (0, 0) _ ((setRow_other _ _ _ _ (Nat.ne_of_lt nK_A)).trans Kw13.out) Try.underlying27 rfl HIk.out ?_))
  refine (CR4.out _ _ (HM.out.below (below_setRow' HBw13.out gA _))).mono ?_
  rintro e w14 ⟨vw14, rfl, hO, hb⟩
  have Kw14 := Lib.hid (show w14.heap[w.heap.size]? = some (.cells k.cells 27) from row_below hb ((setRow_other _ _ _ _ (Nat.ne_of_lt nK_A)).trans Kw13.out))
  have lKw14 : w.heap.size < w14.heap.size := row_lt Kw14.out
  have OWNw14 := Lib.hid (show w14.heap[g]? = some (.cells gcs 5) from row_below hb ((setRow_other _ _ _ _ (Nat.ne_of_lt nOWN_A)).trans OWNw13.out))
  have lOWNw14 : g < w14.heap.size := row_lt OWNw14.out
  have Aw14 := Lib.hid (show w14.heap[w4.heap.size]? = some (.cells X4.cells 27) from row_below hb (setRow_heap _ _ _ _ _ _ Aw13.out))
  have lAw14 : w4.heap.size < w14.heap.size := row_lt Aw14.out
  have Cw14 := Lib.hid (show w14.heap[w5.heap.size]? = some (.cells X3.cells 27) from row_below hb ((setRow_other _ _ _ _ (Nat.ne_of_gt nA_C)).trans Cw13.out))
  have lCw14 : w5.heap.size < w14.heap.size := row_lt Cw14.out
  have LP4w14 := Lib.hid (show ListOk (fun b => w12.heap.size ≤ b) w14 (.slice aoLP4 l4.length cLP4) l4 from ListOk.keep (ListOk.keep LP4w13.out (kept_setRow (Nat.not_le_of_lt mLP4_A))) (kept_below hb))
  have HBw14 := Lib.hid (below_step (below_setRow' HBw13.out gA _) hb)
  clear hb
  have mLR4_K : w.heap.size < w13.heap.size := lKw13
  have mLR4_OWN : g < w13.heap.size := lOWNw13
  have mLR4_A : w4.heap.size < w13.heap.size := lAw13
  have mLR4_C : w5.heap.size < w13.heap.size := lCw13
  have hqLR4 : ListOk (fun b => w13.heap.size ≤ b) w14 vw14 l4 := (hO.listOk FM4.out (Nat.le_trans hq4 (by unfold maxLen; decide))).mono (fun b q => Nat.le_trans (by first | exact Nat.le_refl _ | (simp only [World.size_alloc, size_setRow]; exact Nat.le_refl _)) q)
  obtain ⟨aoLR4, cLR4, rfl, hq1LR4, hq2LR4, hq3LR4⟩ := hqLR4
  have LR4w14 := Lib.hid (show ListOk (fun b => w13.heap.size ≤ b) w14 (.slice aoLR4 l4.length cLR4) l4 from ⟨aoLR4, cLR4, rfl, hq1LR4, hq2LR4, hq3LR4⟩)
  clear hO hq1LR4 hq2LR4 hq3LR4
  go_wp2_with (first
    | ((with_reducible refine wpList_store_rowTo rfl 27 (.tmp 14) (.tmp 162) rfl rfl (w5.heap.size) (X4.cells) ?_ ?_ 27 (X3.cells) Cw14.out HX4.out rfl (one_cells _) ?_); (as_aux_lemma => kernel_rfl); (as_aux_lemma => kernel_rfl))
    | (with_reducible refine wpList_load_row rfl 27 (.tmp 12) rfl (w4.heap.size) rfl 27 (X4.cells) (0, 0) _ ((setRow_other _ _ _ _ (Nat.ne_of_lt nA_C)).trans Aw14.out) Try.underlying27 rfl HX4.out ?_)
    | (with_reducible refine wpList_load_row rfl 27 (.tmp 14) rfl (w5.heap.size) rfl 27 (X4.cells) (0, 0) _ (setRow_heap _ _ _ _ _ _ Cw14.out) Try.underlying27 rfl HX4.out ?_))
  refine (same_yes _ _ _ _ rfl _ (ListOk.keep LP4w14.out (kept_setRow (Nat.not_le_of_lt mLP4_C))).listIn (ListOk.keep LR4w14.out (kept_setRow (Nat.not_le_of_lt mLR4_C))).listIn).mono ?_
  rintro e w15 ⟨rfl, hb⟩
  have Kw15 := Lib.hid (show w15.heap[w.heap.size]? = some (.cells k.cells 27) from row_below hb ((setRow_other _ _ _ _ (Nat.ne_of_lt nK_C)).trans Kw14.out))
  have lKw15 : w.heap.size < w15.heap.size := row_lt Kw15.out
  have OWNw15 := Lib.hid (show w15.heap[g]? = some (.cells gcs 5) from row_below hb ((setRow_other _ _ _ _ (Nat.ne_of_lt nOWN_C)).trans OWNw14.out))
  have lOWNw15 : g < w15.heap.size := row_lt OWNw15.out
  have Aw15 := Lib.hid (show w15.heap[w4.heap.size]? = some (.cells X4.cells 27) from row_below hb ((setRow_other _ _ _ _ (Nat.ne_of_lt nA_C)).trans Aw14.out))
  have lAw15 : w4.heap.size < w15.heap.size := row_lt Aw15.out
  have Cw15 := Lib.hid (show w15.heap[w5.heap.size]? = some (.cells X4.cells 27) from row_below hb (setRow_heap _ _ _ _ _ _ Cw14.out))
  have lCw15 : w5.heap.size < w15.heap.size := row_lt Cw15.out
  have LP4w15 := Lib.hid (show ListOk (fun b => w12.heap.size ≤ b) w15 (.slice aoLP4 l4.length cLP4) l4 from ListOk.keep (ListOk.keep LP4w14.out (kept_setRow (Nat.not_le_of_lt mLP4_C))) (kept_below hb))
  have LR4w15 := Lib.hid (show ListOk (fun b => w13.heap.size ≤ b) w15 (.slice aoLR4 l4.length cLR4) l4 from ListOk.keep (ListOk.keep LR4w14.out (kept_setRow (Nat.not_le_of_lt mLR4_C))) (kept_below hb))
  have HBw15 := Lib.hid (below_step (below_setRow' HBw14.out gC _) hb)
  clear hb
  go_wp2_with fail
  have hml : m.length ≤ maxLen := by unfold maxLen; omega
  have L1 := Lib.hid (list_one (fr_rows2 w15 (.cells #[.slice (some ⟨g, 0, none⟩) m.length gcap] 45) (.cells #[.slice ao m.length cap] 45)).1 (BytesAt.read (base := 0) ⟨g, gcap, gcs, rfl, hgc, Nat.zero_le _, row_lt (row_alloc (row_alloc OWNw15.out)), (row_alloc (row_alloc OWNw15.out)), HGX.out⟩ hby2.out) hml)
  have L2 := Lib.hid (list_one (fr_rows2 w15 (.cells #[.slice (some ⟨g, 0, none⟩) m.length gcap] 45) (.cells #[.slice ao m.length cap] 45)).2 (HM.out.below (below_more (below_more HBw15.out (.cells #[.slice (some ⟨g, 0, none⟩) m.length gcap] 45)) (.cells #[.slice ao m.length cap] 45))) hml)
  have HBF := Lib.hid (below_more (below_more HBw15.out (.cells #[.slice (some ⟨g, 0, none⟩) m.length gcap] 45)) (.cells #[.slice ao m.length cap] 45))
  refine (same_yes _ _ _ _ rfl _ L1.out L2.out).mono ?_
  rintro e wz ⟨rfl, hb⟩
  have HBZ := Lib.hid (below_step HBF.out hb)
  clear hb
  go_wp2
  go_ret
  exact ⟨rfl, HBZ.out⟩
theorem walk (k : Lk) (hw : k.Wf) (now : Int) (v : Value) (m : List Int) (w : World) (hm : MsgIn w v m) : Calls Try.prog 8 #[.agg k.cells, v, .int .i64 now] w (BoolR w) := by
  by_cases hl : m.length ≤ 20
  · exact short k hw now v m w hm hl
  · exact long k hw now v m w hm (by omega)
end Go.Proofs.Ytmighkgjbohieaa.peerMatches
