/-
  The walk of PeerNames: the limits, and errors.
-/
import Derived.Test.YtmighkgjbohieaaPeerAux
import Derived.Deep.DeepCutAuto
set_option linter.unusedVariables false
set_option linter.unusedSimpArgs false
namespace Go.Proofs.Ytmighkgjbohieaa.peerNames
open Go.ChangeShapes Go.WideShapes Go.ChangeAt Go.RowKit Go.Great

theorem id0 : (1 : Int) ≤ 65535 ∧ (65535 : Int) ≤ 65535 := by decide
theorem lk_id (k : Lk) : k.cells[13]? = some (.int .i64 k.id) := rfl
theorem err_of {w : World} {r : Res} {er : Int} {f : FuncId} {vs : Array Value} (e : r = errR er) (h : Calls Try.prog f vs w (RetR w r)) : Calls Try.prog f vs w (Ret3 w zeroLk [] er) := ret_of e h
theorem short_in {w : World} {base b : Nat} (h : MsgAt w base (.slice (some ⟨b, 0, none⟩) 5 5) (msgOf 1 1 0)) : MsgIn w (.slice (some ⟨b, 0, none⟩) 4 5) [1, 1, 0, 0] := by
  obtain ⟨b', e, _, hh⟩ := h
  cases e
  refine ⟨_, 5, rfl, by decide, by decide, fun _ => ⟨b, 0, rfl, fun i x hi => ?_⟩⟩
  rw [Nat.zero_add, cell_of_row _ _ _ _ _ _ hh]
  match i, hi with
  | 0, hi => cases hi; rfl
  | 1, hi => cases hi; rfl
  | 2, hi => cases hi; rfl
  | 3, hi => cases hi; rfl
  | i + 4, hi => simp at hi
theorem facts : ∃ KZ K a b c : Lk, (∀ w, Calls Try.prog 24 #[.agg #[.int .u8 2, .int .u8 0, .int .u8 0, .int .u8 0, .int .u8 0, .int .u8 3], .agg #[.int .u8 2, .int .u8 0, .int .u8 0, .int .u8 0, .int .u8 0, .int .u8 3], .int .i64 1] w fun e w' => e = .returned (.tuple #[.agg KZ.cells, .int .i64 2]) ∧ Below w.heap.size w w') ∧ (∀ w, Calls Try.prog 24 #[.agg #[.int .u8 2, .int .u8 0, .int .u8 0, .int .u8 0, .int .u8 0, .int .u8 3], .agg #[.int .u8 2, .int .u8 0, .int .u8 0, .int .u8 0, .int .u8 0, .int .u8 4], .int .i64 0] w fun e w' => e = .returned (.tuple #[.agg KZ.cells, .int .i64 2]) ∧ Below w.heap.size w w') ∧ (∀ w, Calls Try.prog 24 #[.agg #[.int .u8 2, .int .u8 0, .int .u8 0, .int .u8 0, .int .u8 0, .int .u8 3], .agg #[.int .u8 2, .int .u8 0, .int .u8 0, .int .u8 0, .int .u8 0, .int .u8 4], .int .i64 65536] w fun e w' => e = .returned (.tuple #[.agg KZ.cells, .int .i64 2]) ∧ Below w.heap.size w w') ∧ (∀ w, Calls Try.prog 24 #[.agg #[.int .u8 2, .int .u8 0, .int .u8 0, .int .u8 0, .int .u8 0, .int .u8 3], .agg #[.int .u8 2, .int .u8 0, .int .u8 0, .int .u8 0, .int .u8 0, .int .u8 4], .int .i64 65535] w fun e w' => e = .returned (.tuple #[.agg K.cells, .int .i64 0]) ∧ Below w.heap.size w w') ∧ (∀ w, Calls Try.prog 19 #[.agg K.cells, .int .i64 0] w (Ret3 w KZ [] 20)) ∧ (∀ w mv, MsgIn w mv (msgOf 2 1 65535) → Calls Try.prog 20 #[.agg K.cells, mv, .int .i64 0] w (Ret3 w KZ [] 20)) ∧ (∀ w mv, MsgIn w mv [1, 1, 0, 0] → Calls Try.prog 20 #[.agg K.cells, mv, .int .i64 0] w (Ret3 w KZ [] 10)) ∧ (∀ w mv, MsgIn w mv (msgOf 1 0 0) → Calls Try.prog 20 #[.agg K.cells, mv, .int .i64 0] w (Ret3 w KZ [] 12)) ∧ (∀ w, Calls Try.prog 17 #[.agg K.cells, .int .i64 (-1)] w (Ret3 w KZ [] 2)) ∧ (∀ w, Calls Try.prog 17 #[.agg K.cells, .int .i64 0] w (Ret3 w a [msgOf 1 65535 0] 0)) ∧ (∀ w, Calls Try.prog 17 #[.agg a.cells, .int .i64 0] w (Ret3 w KZ [] 20)) ∧ (∀ w mv, MsgIn w mv (msgOf 2 1 2) → Calls Try.prog 20 #[.agg a.cells, mv, .int .i64 0] w (Ret3 w KZ [] 21)) ∧ (∀ w, Calls Try.prog 19 #[.agg a.cells, .int .i64 5] w (Ret3 w b [msgOf 3 65535 0] 0)) ∧ (∀ w, Calls Try.prog 19 #[.agg b.cells, .int .i64 5] w (Ret3 w KZ [] 20)) ∧ (∀ w, Calls Try.prog 21 #[.agg b.cells, .int .i64 40005] w (Ret3 w c [] 0)) ∧ (∀ w, Calls Try.prog 21 #[.agg b.cells, .int .i64 40004] w (Ret3 w b [] 0)) ∧ b.st = 5 ∧ c.st = 0 ∧ c.id = 1 ∧ (∀ w, (Op.equalIn 10000 27 (.agg b.cells) (.agg b.cells)).run Try.prog w = .ok true w) := by
  have kc : (LA 0 65535 0 0 0).chk = 0 := LA_chk (shape0 rfl rfl rfl rfl) id0
  have ac : (LA 1 65535 0 1 (0 + 40000)).chk = 0 := LA_chk (shape1 rfl rfl (by decide) (by decide)) id0
  have bc : (LA 5 65535 0 0 (5 + 40000)).chk = 0 := LA_chk (shape5 rfl (by decide) rfl (by decide)) id0
  have t0 : tinB 0 = true := by decide
  have t5 : tinB 5 = true := by decide
  have o1 : (1 : Int) ≤ 1 ∧ (1 : Int) ≤ 65535 := by decide
  have o2 : (1 : Int) ≤ 2 ∧ (2 : Int) ≤ 65535 := by decide
  refine ⟨zeroLk, LA 0 65535 0 0 0, LA 1 65535 0 1 (0 + 40000), LA 5 65535 0 0 (5 + 40000), LA 0 (65535 % 65535 + 1) 0 0 0, fun w => ?_, fun w => ?_, fun w => ?_, fun w => ?_, fun w => ?_, fun w mv hm => ?_, fun w mv hm => ?_, fun w mv hm => ?_, fun w => ?_, fun w => ?_, fun w => ?_, fun w mv hm => ?_, fun w => ?_, fun w => ?_, fun w => ?_, fun w => ?_, rfl, rfl, rfl, fun w => ?_⟩
  · exact new_same 2 0 0 0 0 3 2 0 0 0 0 3 1 (by decide) (by decide) (by decide) (by decide) (by decide) (by decide) (by decide) (by decide) (by decide) (by decide) (by decide) (by decide) (by decide) w
  · have h := new0_any 0 w
    exact h
  · have h := new0_any 65536 w
    exact h
  · have h := new0_any 65535 w
    exact h
  · exact err_of (by rw [pClose, guard_ok kc t0]; rfl) (close_any _ LA_by 0 w)
  · exact err_of (by rw [h_conf kc t0 o1 id0]; rfl) (handle_any _ LA_by 0 mv _ w hm)
  · exact err_of (by rw [pHandle, guard_ok kc t0]; rfl) (handle_any _ LA_by 0 mv _ w hm)
  · exact err_of (by rw [pHandle, guard_ok kc t0]; rfl) (handle_any _ LA_by 0 mv _ w hm)
  · exact err_of (by rw [pStart, guard_arg kc (by decide)]) (start_any _ LA_by (-1) w)
  · exact ret_of (a_start id0 (by decide) (by decide)) (start_any _ LA_by 0 w)
  · exact err_of (by rw [pStart, guard_ok ac t0]; rfl) (start_any _ LA_by 0 w)
  · exact err_of (by rw [h_conf ac t0 o1 o2]; rfl) (handle_any _ LA_by 0 mv _ w hm)
  · exact ret_of (by rw [pClose, guard_ok ac t5]; rfl) (close_any _ LA_by 5 w)
  · exact err_of (by rw [pClose, guard_ok bc t5]; rfl) (close_any _ LA_by 5 w)
  · exact ret_of (a_tick5 id0 (by decide) (by decide) (by decide) (by decide) (by decide)) (tick_any _ LA_by 40005 w)
  · exact ret_of (by rw [pTick, guard_ok bc (by decide), if_pos (.inr (by decide))]) (tick_any _ LA_by 40004 w)
  · kernel_rfl
def BoolR (w : World) (e : Ending) (w' : World) : Prop := e = .returned (.bool true) ∧ Below w.heap.size w w'
set_option maxRecDepth 100000 in
set_option maxHeartbeats 16000000 in
theorem walk (w : World) : Calls Try.prog 9 #[] w (BoolR w) := by
  obtain ⟨KZ, K, a, b, c, hN1, hN2, hN3, hN4, hC1, hH1, hH2, hH3, hS1, hS2, hS3, hH4, hC2, hC3, hT1, hT2, hB0, hC0, hCI, hEQ⟩ := facts
  have N1 := Lib.hid hN1
  have N2 := Lib.hid hN2
  have N3 := Lib.hid hN3
  have N4 := Lib.hid hN4
  have C1 := Lib.hid hC1
  have H1 := Lib.hid hH1
  have H2 := Lib.hid hH2
  have H3 := Lib.hid hH3
  have S1 := Lib.hid hS1
  have S2 := Lib.hid hS2
  have S3 := Lib.hid hS3
  have H4 := Lib.hid hH4
  have C2 := Lib.hid hC2
  have C3 := Lib.hid hC3
  have T1 := Lib.hid hT1
  have T2 := Lib.hid hT2
  have B0 := Lib.hid hB0
  have C0 := Lib.hid hC0
  have CI := Lib.hid hCI
  clear hN1 hN2 hN3 hN4 hC1 hH1 hH2 hH3 hS1 hS2 hS3 hH4 hC2 hC3 hT1 hT2 hB0 hC0 hCI
  have HIKZ := Lib.hid (link_info2 KZ)
  have HIK := Lib.hid (link_info2 K)
  have HIa := Lib.hid (link_info2 a)
  have HIb := Lib.hid (link_info2 b)
  have HIc := Lib.hid (link_info2 c)
  have CZ := Lib.hid (fun W => check_any zeroLk zero_by W)
  go_enter Try.func9, Try.ntmps9
  go_wp2_with (fail)
  refine (one_any _).mono ?_
  rintro e w1 ⟨rfl, hb⟩
  have HBw1 := Lib.hid (below_step (Below.refl w.heap.size w) hb)
  clear hb
  go_wp2_with (fail)
  refine (one_any _).mono ?_
  rintro e w2 ⟨rfl, hb⟩
  have HBw2 := Lib.hid (below_step HBw1.out hb)
  clear hb
  go_wp2_with (fail)
  refine (N1.out _).mono ?_
  rintro e w3 ⟨rfl, hb⟩
  have HBw3 := Lib.hid (below_step HBw2.out hb)
  clear hb
  go_wp2_with (((with_reducible refine wpList_store_rowTo rfl 27 (.tmp 1) (.tmp 51) rfl rfl (w3.heap.size) (KZ.cells) ?_ ?_ 27 #[.int .u8 0, .int .u8 0, .int .u8 0, .int .u8 0, .int .u8 0, .int .u8 0, .int .u8 0, .int .u8 0, .int .u8 0, .int .u8 0, .int .u8 0, .int .u8 0, .int .u8 0, .int .i64 0, .int .i64 0, .int .i64 0, .int .i64 0] (heap_alloc_at rfl) HIKZ.out rfl (one_cells _) ?_); (as_aux_lemma => kernel_rfl); (as_aux_lemma => kernel_rfl); rw [setRow_allocAt rfl]))
  refine (one_any _).mono ?_
  rintro e w4 ⟨rfl, hb⟩
  have HBw4 := Lib.hid (below_step (below_more HBw3.out (.cells KZ.cells 27)) hb)
  clear hb
  go_wp2_with (fail)
  refine (two_any _).mono ?_
  rintro e w5 ⟨rfl, hb⟩
  have HBw5 := Lib.hid (below_step HBw4.out hb)
  clear hb
  go_wp2_with (fail)
  refine (N2.out _).mono ?_
  rintro e w6 ⟨rfl, hb⟩
  have HBw6 := Lib.hid (below_step HBw5.out hb)
  clear hb
  go_wp2_with (((with_reducible refine wpList_store_rowTo rfl 27 (.tmp 3) (.tmp 57) rfl rfl (w6.heap.size) (KZ.cells) ?_ ?_ 27 #[.int .u8 0, .int .u8 0, .int .u8 0, .int .u8 0, .int .u8 0, .int .u8 0, .int .u8 0, .int .u8 0, .int .u8 0, .int .u8 0, .int .u8 0, .int .u8 0, .int .u8 0, .int .i64 0, .int .i64 0, .int .i64 0, .int .i64 0] (heap_alloc_at rfl) HIKZ.out rfl (one_cells _) ?_); (as_aux_lemma => kernel_rfl); (as_aux_lemma => kernel_rfl); rw [setRow_allocAt rfl]))
  refine (one_any _).mono ?_
  rintro e w7 ⟨rfl, hb⟩
  have HBw7 := Lib.hid (below_step (below_more HBw6.out (.cells KZ.cells 27)) hb)
  clear hb
  go_wp2_with (fail)
  refine (two_any _).mono ?_
  rintro e w8 ⟨rfl, hb⟩
  have HBw8 := Lib.hid (below_step HBw7.out hb)
  clear hb
  go_wp2_with (fail)
  refine (N3.out _).mono ?_
  rintro e w9 ⟨rfl, hb⟩
  have HBw9 := Lib.hid (below_step HBw8.out hb)
  clear hb
  go_wp2_with (((with_reducible refine wpList_store_rowTo rfl 27 (.tmp 5) (.tmp 63) rfl rfl (w9.heap.size) (KZ.cells) ?_ ?_ 27 #[.int .u8 0, .int .u8 0, .int .u8 0, .int .u8 0, .int .u8 0, .int .u8 0, .int .u8 0, .int .u8 0, .int .u8 0, .int .u8 0, .int .u8 0, .int .u8 0, .int .u8 0, .int .i64 0, .int .i64 0, .int .i64 0, .int .i64 0] (heap_alloc_at rfl) HIKZ.out rfl (one_cells _) ?_); (as_aux_lemma => kernel_rfl); (as_aux_lemma => kernel_rfl); rw [setRow_allocAt rfl]))
  refine (one_any _).mono ?_
  rintro e w10 ⟨rfl, hb⟩
  have HBw10 := Lib.hid (below_step (below_more HBw9.out (.cells KZ.cells 27)) hb)
  clear hb
  go_wp2_with (fail)
  refine (two_any _).mono ?_
  rintro e w11 ⟨rfl, hb⟩
  have HBw11 := Lib.hid (below_step HBw10.out hb)
  clear hb
  go_wp2_with (fail)
  refine (N4.out _).mono ?_
  rintro e w12 ⟨rfl, hb⟩
  have HBw12 := Lib.hid (below_step HBw11.out hb)
  clear hb
  have gRK : w.heap.size ≤ w12.heap.size := by have hh := Below.size HBw12.out; exact hh
  go_wp2_with (first
    | ((with_reducible refine wpList_store_rowTo rfl 27 (.tmp 7) (.tmp 69) rfl rfl (w12.heap.size) (K.cells) ?_ ?_ 27 #[.int .u8 0, .int .u8 0, .int .u8 0, .int .u8 0, .int .u8 0, .int .u8 0, .int .u8 0, .int .u8 0, .int .u8 0, .int .u8 0, .int .u8 0, .int .u8 0, .int .u8 0, .int .i64 0, .int .i64 0, .int .i64 0, .int .i64 0] (heap_alloc_at rfl) HIK.out rfl (one_cells _) ?_); (as_aux_lemma => kernel_rfl); (as_aux_lemma => kernel_rfl); rw [setRow_allocAt rfl])
    | (with_reducible refine wpList_load_row rfl 27 (.tmp 7) rfl (w12.heap.size) rfl 27 (K.cells) (0, 0) _ (heap_alloc_at rfl) Try.underlying27 rfl HIK.out ?_))
  refine (C1.out _).mono ?_
  rintro e w13 ⟨v13, rfl, hO, hb⟩
  have RKw13 := Lib.hid (show w13.heap[w12.heap.size]? = some (.cells K.cells 27) from row_below hb (heap_alloc_at rfl))
  have lRKw13 : w12.heap.size < w13.heap.size := row_lt RKw13.out
  have HBw13 := Lib.hid (below_step (below_more HBw12.out (.cells K.cells 27)) hb)
  clear hb
  clear hO
  go_upto_region 6 with ((with_reducible refine wpList_store_rowTo rfl 27 (.tmp 9) (.tmp 74) rfl rfl (w13.heap.size) (KZ.cells) ?_ ?_ 27 #[.int .u8 0, .int .u8 0, .int .u8 0, .int .u8 0, .int .u8 0, .int .u8 0, .int .u8 0, .int .u8 0, .int .u8 0, .int .u8 0, .int .u8 0, .int .u8 0, .int .u8 0, .int .i64 0, .int .i64 0, .int .i64 0, .int .i64 0] (heap_alloc_at rfl) HIKZ.out rfl (one_cells _) ?_); (as_aux_lemma => kernel_rfl); (as_aux_lemma => kernel_rfl); rw [setRow_allocAt rfl])
  obtain ⟨w14, hwq⟩ : ∃ wq, wq = (w13.alloc (.cells KZ.cells 27)) := ⟨_, rfl⟩
  rw [← hwq]
  have hb : Below ((w13.alloc (.cells KZ.cells 27))).heap.size (w13.alloc (.cells KZ.cells 27)) w14 := by rw [hwq]; exact Below.refl _ _
  clear hwq
  have RKw14 := Lib.hid (show w14.heap[w12.heap.size]? = some (.cells K.cells 27) from row_below hb (row_alloc RKw13.out))
  have lRKw14 : w12.heap.size < w14.heap.size := row_lt RKw14.out
  have HBw14 := Lib.hid (below_step (below_more HBw13.out (.cells KZ.cells 27)) hb)
  clear hb
  go_cut [12, 13, 14] (fun t10 t11 t12 wx => ∃ T v2, t10 = .pointer (some ⟨T, 0, none⟩) ∧ t11 = v2 ∧ t12 = .int .i64 20 ∧ w14.heap.size ≤ T ∧ wx.heap[T]? = some (.cells KZ.cells 27) ∧ Below w14.heap.size w14 wx ∧ ListOk (fun b => w14.heap.size ≤ b) wx v2 [])
  case first =>
    as_aux_lemma =>
      refine wp_region_held_drew (S := fun w' => Below w14.heap.size w14 w') (by kernel_rfl) ((Below.refl _ _).drew) (fun hHeld => ?_)
      refine wpAnyH_take (i := 0) (v := .agg K.cells) rfl (by kernel_rfl) (by kernel_rfl) (by kernel_rfl) (fun _ _ _ h => h) (yields_sub (by rfl) 27 _ rfl (w12.heap.size) 0 (by rfl) K.cells _ (fun w' h' => range_row (row_below h' RKw14.out)) Try.underlying27 rfl HIK.out) (by assumption) ?_
      simp only [Act.put, List.setIfInBounds_toArray, List.set_cons_zero, List.set_cons_succ, List.getElem_toArray, List.getElem_cons_succ, List.getElem_cons_zero]
      refine wpAnyH_ready (rs := [1, 7]) (by kernel_rfl) (by simp) ?_
      refine AllReadyH.cons (i := 1) (rs := [7]) rfl ?_ (AllReadyH.cons (i := 7) (rs := []) rfl ?_ AllReadyH.nil)
      · intro Kq hKq
        simp only [List.getElem_toArray, List.getElem_cons_succ, List.getElem_cons_zero]
        rw [if_pos (by rfl)]
        refine wp_call_fn 33 #[.int .i64 1, .int .i64 65535] (_) (by as_aux_lemma => kernel_rfl) (confirm_any 1 65535 (by decide) (by decide) (by decide) (by decide) _) ?_
        rintro e wo ⟨mv, rfl, hM, hbo⟩
        refine ⟨mv, rfl, ?_⟩
        refine hKq.out _ _ ((hHeld.trans (hbo.mono hHeld.size))) (fun hHeld2 => ?_)
        clear hKq Kq hHeld
        have hHeld := hHeld2
        clear hHeld2
        simp only [Act.put, List.setIfInBounds_toArray, List.set_cons_zero, List.set_cons_succ]
        have HMI := Lib.hid (hM.read (msgOf_ok 2 1 65535 (by decide)).2)
        refine wpAnyH_ready (rs := [2, 7]) (by kernel_rfl) (by simp) ?_
        refine AllReadyH.cons (i := 2) (rs := [7]) rfl ?_ (AllReadyH.cons (i := 7) (rs := []) rfl ?_ AllReadyH.nil)
        · intro Kq hKq
          simp only [List.getElem_toArray, List.getElem_cons_succ, List.getElem_cons_zero]
          rw [if_pos (by rfl)]
          have HSZ0 : w14.heap.size ≤ (wo).heap.size := hHeld.size
          refine wp_call_fn 20 #[.agg K.cells, mv, .int .i64 0] (_) (by as_aux_lemma => kernel_rfl) (H1.out _ _ HMI.out) ?_
          rintro e w1 ⟨v2, rfl, hO, hb⟩
          refine ⟨.tuple #[.agg KZ.cells, v2, .int .i64 20], rfl, ?_⟩
          have HB1 := Lib.hid (hHeld.trans (hb.mono HSZ0))
          have HBZ : w14.heap.size ≤ w1.heap.size := HB1.out.size
          refine hKq.out _ _ (HB1.out) (fun hHeld2 => ?_)
          clear hKq Kq hHeld
          have hHeld := hHeld2
          clear hHeld2
          simp only [Act.put, List.setIfInBounds_toArray, List.set_cons_zero, List.set_cons_succ]
          refine wpAnyH_take (i := 3) (v := .tuple #[.agg KZ.cells, v2, .int .i64 20]) rfl (by kernel_rfl) (by kernel_rfl) (by kernel_rfl) (fun _ _ _ h => h) (Or.inl ⟨by rfl, by intro w hSw; clear hHeld hSw; go_simp; (try rfl)⟩) (by assumption) ?_
          simp only [Act.put, List.setIfInBounds_toArray, List.set_cons_zero, List.set_cons_succ, List.getElem_toArray, List.getElem_cons_succ, List.getElem_cons_zero]
          refine wpAnyH_take (i := 4) (v := .agg KZ.cells) rfl (by kernel_rfl) (by kernel_rfl) (by kernel_rfl) (fun _ _ _ h => h) (Or.inl ⟨by rfl, by intro w hSw; clear hHeld hSw; go_simp; (try rfl)⟩) (by assumption) ?_
          simp only [Act.put, List.setIfInBounds_toArray, List.set_cons_zero, List.set_cons_succ, List.getElem_toArray, List.getElem_cons_succ, List.getElem_cons_zero]
          refine wpAnyH_take (i := 5) (v := v2) rfl (by kernel_rfl) (by kernel_rfl) (by kernel_rfl) (fun _ _ _ h => h) (Or.inl ⟨by rfl, by intro w hSw; clear hHeld hSw; go_simp; (try rfl)⟩) (by assumption) ?_
          simp only [Act.put, List.setIfInBounds_toArray, List.set_cons_zero, List.set_cons_succ, List.getElem_toArray, List.getElem_cons_succ, List.getElem_cons_zero]
          refine wpAnyH_take (i := 6) (v := .int .i64 20) rfl (by kernel_rfl) (by kernel_rfl) (by kernel_rfl) (fun _ _ _ h => h) (Or.inl ⟨by rfl, by intro w hSw; clear hHeld hSw; go_simp; (try rfl)⟩) (by assumption) ?_
          simp only [Act.put, List.setIfInBounds_toArray, List.set_cons_zero, List.set_cons_succ, List.getElem_toArray, List.getElem_cons_succ, List.getElem_cons_zero]
          refine wpAnyH_ready (rs := [7]) (by kernel_rfl) (by simp) ?_
          refine AllReadyH.cons (i := 7) (rs := []) rfl ?_ AllReadyH.nil
          intro Kq hKq
          simp only [List.getElem_toArray, List.getElem_cons_succ, List.getElem_cons_zero]
          rw [if_pos (by rfl)]
          have HTA : w14.heap.size ≤ w1.heap.size := hHeld.size
          refine wp_op_value (.pointer (some ⟨w1.heap.size, 0, none⟩)) (w1.alloc (.cells #[.int .u8 0, .int .u8 0, .int .u8 0, .int .u8 0, .int .u8 0, .int .u8 0, .int .u8 0, .int .u8 0, .int .u8 0, .int .u8 0, .int .u8 0, .int .u8 0, .int .u8 0, .int .i64 0, .int .i64 0, .int .i64 0, .int .i64 0] 27)) (by as_aux_lemma => kernel_rfl) ?_
          refine hKq.out _ _ ((hHeld.alloc hHeld.size _)) (fun hHeld2 => ?_)
          clear hKq Kq hHeld
          have hHeld := hHeld2
          clear hHeld2
          simp only [Act.put, List.setIfInBounds_toArray, List.set_cons_zero, List.set_cons_succ]
          have HBA := Lib.hid (show Below w14.heap.size w14 (w1.alloc (.cells KZ.cells 27)) from HB1.out.alloc HBZ _)
          refine wpAnyH_ready (rs := [8]) (by kernel_rfl) (by simp) ?_
          refine AllReadyH.cons (i := 8) (rs := []) rfl ?_ AllReadyH.nil
          intro Kq hKq
          simp only [List.getElem_toArray, List.getElem_cons_succ, List.getElem_cons_zero]
          rw [if_pos (by rfl)]
          refine wp_store_row 27 (.tmp 12) (.tmp 81) (by rfl) (w1.heap.size) KZ.cells (by as_aux_lemma => kernel_rfl) (by as_aux_lemma => kernel_rfl) 27 #[.int .u8 0, .int .u8 0, .int .u8 0, .int .u8 0, .int .u8 0, .int .u8 0, .int .u8 0, .int .u8 0, .int .u8 0, .int .u8 0, .int .u8 0, .int .u8 0, .int .u8 0, .int .i64 0, .int .i64 0, .int .i64 0, .int .i64 0] (heap_alloc_new _ _) HIKZ.out (by as_aux_lemma => kernel_rfl) (one_cells _) ?_
          rw [setRow_alloc]
          refine hKq.out _ _ (HBA.out) (fun hHeld2 => ?_)
          clear hKq Kq hHeld
          have hHeld := hHeld2
          clear hHeld2
          simp only [Act.put, List.setIfInBounds_toArray, List.set_cons_zero, List.set_cons_succ]
          refine wpAnyH_take (i := 9) (v := v2) rfl (by kernel_rfl) (by kernel_rfl) (by kernel_rfl) (fun _ _ _ h => h) (Or.inl ⟨by rfl, by intro w hSw; clear hHeld hSw; go_simp; (try rfl)⟩) (by assumption) ?_
          simp only [Act.put, List.setIfInBounds_toArray, List.set_cons_zero, List.set_cons_succ, List.getElem_toArray, List.getElem_cons_succ, List.getElem_cons_zero]
          refine wpAnyH_take (i := 10) (v := .int .i64 20) rfl (by kernel_rfl) (by kernel_rfl) (by kernel_rfl) (fun _ _ _ h => h) (Or.inl ⟨by rfl, by intro w hSw; clear hHeld hSw; go_simp; (try rfl)⟩) (by assumption) ?_
          simp only [Act.put, List.setIfInBounds_toArray, List.set_cons_zero, List.set_cons_succ, List.getElem_toArray, List.getElem_cons_succ, List.getElem_cons_zero]
          clear hHeld
          refine wpAnyH_done (by kernel_rfl) ?_ _
          have HT : w14.heap.size ≤ w1.heap.size ∧ (w1.alloc (.cells KZ.cells 27)).heap[w1.heap.size]? = some (.cells KZ.cells 27) ∧ Below w14.heap.size w14 (w1.alloc (.cells KZ.cells 27)) ∧ ListOk (fun b => w14.heap.size ≤ b) (w1.alloc (.cells KZ.cells 27)) v2 ([] : List (List Int)) := ⟨HBZ, heap_alloc_new _ _, HBA.out, ((hO.listOk no_ok (Nat.le_trans (show 0 ≤ 2 by decide) (by unfold maxLen; decide))).mono (fun b q => Nat.le_trans HSZ0 q)).keep (kept_below ((Below.refl _ _).alloc (Nat.le_refl _) _))⟩
          go_wp2_with fail
          go_meet
          case rel => exact ⟨_, _, rfl, rfl, rfl, HT⟩
        · intro Kq hKq
          simp only [List.getElem_toArray, List.getElem_cons_succ, List.getElem_cons_zero]
          rw [if_pos (by rfl)]
          have HTA : w14.heap.size ≤ wo.heap.size := hHeld.size
          refine wp_op_value (.pointer (some ⟨wo.heap.size, 0, none⟩)) (wo.alloc (.cells #[.int .u8 0, .int .u8 0, .int .u8 0, .int .u8 0, .int .u8 0, .int .u8 0, .int .u8 0, .int .u8 0, .int .u8 0, .int .u8 0, .int .u8 0, .int .u8 0, .int .u8 0, .int .i64 0, .int .i64 0, .int .i64 0, .int .i64 0] 27)) (by as_aux_lemma => kernel_rfl) ?_
          refine hKq.out _ _ ((hHeld.alloc hHeld.size _)) (fun hHeld2 => ?_)
          clear hKq Kq hHeld
          have hHeld := hHeld2
          clear hHeld2
          simp only [Act.put, List.setIfInBounds_toArray, List.set_cons_zero, List.set_cons_succ]
          refine wpAnyH_ready (rs := [2]) (by kernel_rfl) (by simp) ?_
          refine AllReadyH.cons (i := 2) (rs := []) rfl ?_ AllReadyH.nil
          intro Kq hKq
          simp only [List.getElem_toArray, List.getElem_cons_succ, List.getElem_cons_zero]
          rw [if_pos (by rfl)]
          have HSZ0 : w14.heap.size ≤ ((wo.alloc (.cells #[.int .u8 0, .int .u8 0, .int .u8 0, .int .u8 0, .int .u8 0, .int .u8 0, .int .u8 0, .int .u8 0, .int .u8 0, .int .u8 0, .int .u8 0, .int .u8 0, .int .u8 0, .int .i64 0, .int .i64 0, .int .i64 0, .int .i64 0] 27))).heap.size := hHeld.size
          refine wp_call_fn 20 #[.agg K.cells, mv, .int .i64 0] (_) (by as_aux_lemma => kernel_rfl) (H1.out _ _ (MsgIn.below HMI.out ((Below.refl _ _).alloc (Nat.le_refl _) _))) ?_
          rintro e w1 ⟨v2, rfl, hO, hb⟩
          refine ⟨.tuple #[.agg KZ.cells, v2, .int .i64 20], rfl, ?_⟩
          have HB1 := Lib.hid (hHeld.trans (hb.mono HSZ0))
          have HBZ : w14.heap.size ≤ w1.heap.size := HB1.out.size
          refine hKq.out _ _ (HB1.out) (fun hHeld2 => ?_)
          clear hKq Kq hHeld
          have hHeld := hHeld2
          clear hHeld2
          simp only [Act.put, List.setIfInBounds_toArray, List.set_cons_zero, List.set_cons_succ]
          have HRT := Lib.hid (row_below hb (heap_alloc_new _ _))
          have HTL : wo.heap.size < ((wo.alloc (.cells #[.int .u8 0, .int .u8 0, .int .u8 0, .int .u8 0, .int .u8 0, .int .u8 0, .int .u8 0, .int .u8 0, .int .u8 0, .int .u8 0, .int .u8 0, .int .u8 0, .int .u8 0, .int .i64 0, .int .i64 0, .int .i64 0, .int .i64 0] 27))).heap.size := lt_alloc _ _
          refine wpAnyH_take (i := 3) (v := .tuple #[.agg KZ.cells, v2, .int .i64 20]) rfl (by kernel_rfl) (by kernel_rfl) (by kernel_rfl) (fun _ _ _ h => h) (Or.inl ⟨by rfl, by intro w hSw; clear hHeld hSw; go_simp; (try rfl)⟩) (by assumption) ?_
          simp only [Act.put, List.setIfInBounds_toArray, List.set_cons_zero, List.set_cons_succ, List.getElem_toArray, List.getElem_cons_succ, List.getElem_cons_zero]
          refine wpAnyH_take (i := 4) (v := .agg KZ.cells) rfl (by kernel_rfl) (by kernel_rfl) (by kernel_rfl) (fun _ _ _ h => h) (Or.inl ⟨by rfl, by intro w hSw; clear hHeld hSw; go_simp; (try rfl)⟩) (by assumption) ?_
          simp only [Act.put, List.setIfInBounds_toArray, List.set_cons_zero, List.set_cons_succ, List.getElem_toArray, List.getElem_cons_succ, List.getElem_cons_zero]
          refine wpAnyH_take (i := 5) (v := v2) rfl (by kernel_rfl) (by kernel_rfl) (by kernel_rfl) (fun _ _ _ h => h) (Or.inl ⟨by rfl, by intro w hSw; clear hHeld hSw; go_simp; (try rfl)⟩) (by assumption) ?_
          simp only [Act.put, List.setIfInBounds_toArray, List.set_cons_zero, List.set_cons_succ, List.getElem_toArray, List.getElem_cons_succ, List.getElem_cons_zero]
          refine wpAnyH_take (i := 6) (v := .int .i64 20) rfl (by kernel_rfl) (by kernel_rfl) (by kernel_rfl) (fun _ _ _ h => h) (Or.inl ⟨by rfl, by intro w hSw; clear hHeld hSw; go_simp; (try rfl)⟩) (by assumption) ?_
          simp only [Act.put, List.setIfInBounds_toArray, List.set_cons_zero, List.set_cons_succ, List.getElem_toArray, List.getElem_cons_succ, List.getElem_cons_zero]
          have HBA := Lib.hid (show Below w14.heap.size w14 (w1.setRow (wo.heap.size) KZ.cells) from below_setRow' HB1.out HTA _)
          refine wpAnyH_ready (rs := [8]) (by kernel_rfl) (by simp) ?_
          refine AllReadyH.cons (i := 8) (rs := []) rfl ?_ AllReadyH.nil
          intro Kq hKq
          simp only [List.getElem_toArray, List.getElem_cons_succ, List.getElem_cons_zero]
          rw [if_pos (by rfl)]
          refine wp_store_row 27 (.tmp 12) (.tmp 81) (by rfl) (wo.heap.size) KZ.cells (by as_aux_lemma => kernel_rfl) (by as_aux_lemma => kernel_rfl) 27 #[.int .u8 0, .int .u8 0, .int .u8 0, .int .u8 0, .int .u8 0, .int .u8 0, .int .u8 0, .int .u8 0, .int .u8 0, .int .u8 0, .int .u8 0, .int .u8 0, .int .u8 0, .int .i64 0, .int .i64 0, .int .i64 0, .int .i64 0] HRT.out HIKZ.out (by as_aux_lemma => kernel_rfl) (one_cells _) ?_
          refine hKq.out _ _ (HBA.out) (fun hHeld2 => ?_)
          clear hKq Kq hHeld
          have hHeld := hHeld2
          clear hHeld2
          simp only [Act.put, List.setIfInBounds_toArray, List.set_cons_zero, List.set_cons_succ]
          refine wpAnyH_take (i := 9) (v := v2) rfl (by kernel_rfl) (by kernel_rfl) (by kernel_rfl) (fun _ _ _ h => h) (Or.inl ⟨by rfl, by intro w hSw; clear hHeld hSw; go_simp; (try rfl)⟩) (by assumption) ?_
          simp only [Act.put, List.setIfInBounds_toArray, List.set_cons_zero, List.set_cons_succ, List.getElem_toArray, List.getElem_cons_succ, List.getElem_cons_zero]
          refine wpAnyH_take (i := 10) (v := .int .i64 20) rfl (by kernel_rfl) (by kernel_rfl) (by kernel_rfl) (fun _ _ _ h => h) (Or.inl ⟨by rfl, by intro w hSw; clear hHeld hSw; go_simp; (try rfl)⟩) (by assumption) ?_
          simp only [Act.put, List.setIfInBounds_toArray, List.set_cons_zero, List.set_cons_succ, List.getElem_toArray, List.getElem_cons_succ, List.getElem_cons_zero]
          clear hHeld
          refine wpAnyH_done (by kernel_rfl) ?_ _
          have HT : w14.heap.size ≤ wo.heap.size ∧ (w1.setRow (wo.heap.size) KZ.cells).heap[wo.heap.size]? = some (.cells KZ.cells 27) ∧ Below w14.heap.size w14 (w1.setRow (wo.heap.size) KZ.cells) ∧ ListOk (fun b => w14.heap.size ≤ b) (w1.setRow (wo.heap.size) KZ.cells) v2 ([] : List (List Int)) := ⟨HTA, setRow_heap _ _ _ _ _ _ HRT.out, HBA.out, ((hO.setRow (wo.heap.size) HTL KZ.cells).listOk no_ok (Nat.le_trans (show 0 ≤ 2 by decide) (by unfold maxLen; decide))).mono (fun b q => Nat.le_trans HSZ0 q)⟩
          go_wp2_with fail
          go_meet
          case rel => exact ⟨_, _, rfl, rfl, rfl, HT⟩
      · intro Kq hKq
        simp only [List.getElem_toArray, List.getElem_cons_succ, List.getElem_cons_zero]
        rw [if_pos (by rfl)]
        have HTA : w14.heap.size ≤ w14.heap.size := hHeld.size
        refine wp_op_value (.pointer (some ⟨w14.heap.size, 0, none⟩)) (w14.drew.alloc (.cells #[.int .u8 0, .int .u8 0, .int .u8 0, .int .u8 0, .int .u8 0, .int .u8 0, .int .u8 0, .int .u8 0, .int .u8 0, .int .u8 0, .int .u8 0, .int .u8 0, .int .u8 0, .int .i64 0, .int .i64 0, .int .i64 0, .int .i64 0] 27)) (by as_aux_lemma => kernel_rfl) ?_
        refine hKq.out _ _ ((hHeld.alloc hHeld.size _)) (fun hHeld2 => ?_)
        clear hKq Kq hHeld
        have hHeld := hHeld2
        clear hHeld2
        simp only [Act.put, List.setIfInBounds_toArray, List.set_cons_zero, List.set_cons_succ]
        refine wpAnyH_ready (rs := [1]) (by kernel_rfl) (by simp) ?_
        refine AllReadyH.cons (i := 1) (rs := []) rfl ?_ AllReadyH.nil
        intro Kq hKq
        simp only [List.getElem_toArray, List.getElem_cons_succ, List.getElem_cons_zero]
        rw [if_pos (by rfl)]
        refine wp_call_fn 33 #[.int .i64 1, .int .i64 65535] (_) (by as_aux_lemma => kernel_rfl) (confirm_any 1 65535 (by decide) (by decide) (by decide) (by decide) _) ?_
        rintro e wo ⟨mv, rfl, hM, hbo⟩
        refine ⟨mv, rfl, ?_⟩
        refine hKq.out _ _ ((hHeld.trans (hbo.mono hHeld.size))) (fun hHeld2 => ?_)
        clear hKq Kq hHeld
        have hHeld := hHeld2
        clear hHeld2
        simp only [Act.put, List.setIfInBounds_toArray, List.set_cons_zero, List.set_cons_succ]
        have HRO := Lib.hid (row_below hbo (heap_alloc_new _ _))
        have HMI := Lib.hid (hM.read (msgOf_ok 2 1 65535 (by decide)).2)
        refine wpAnyH_ready (rs := [2]) (by kernel_rfl) (by simp) ?_
        refine AllReadyH.cons (i := 2) (rs := []) rfl ?_ AllReadyH.nil
        intro Kq hKq
        simp only [List.getElem_toArray, List.getElem_cons_succ, List.getElem_cons_zero]
        rw [if_pos (by rfl)]
        have HSZ0 : w14.heap.size ≤ (wo).heap.size := hHeld.size
        refine wp_call_fn 20 #[.agg K.cells, mv, .int .i64 0] (_) (by as_aux_lemma => kernel_rfl) (H1.out _ _ HMI.out) ?_
        rintro e w1 ⟨v2, rfl, hO, hb⟩
        refine ⟨.tuple #[.agg KZ.cells, v2, .int .i64 20], rfl, ?_⟩
        have HB1 := Lib.hid (hHeld.trans (hb.mono HSZ0))
        have HBZ : w14.heap.size ≤ w1.heap.size := HB1.out.size
        refine hKq.out _ _ (HB1.out) (fun hHeld2 => ?_)
        clear hKq Kq hHeld
        have hHeld := hHeld2
        clear hHeld2
        simp only [Act.put, List.setIfInBounds_toArray, List.set_cons_zero, List.set_cons_succ]
        have HRT := Lib.hid (row_below hb HRO.out)
        have HTL : w14.heap.size < (wo).heap.size := Nat.lt_of_lt_of_le (lt_alloc _ _) hbo.size
        refine wpAnyH_take (i := 3) (v := .tuple #[.agg KZ.cells, v2, .int .i64 20]) rfl (by kernel_rfl) (by kernel_rfl) (by kernel_rfl) (fun _ _ _ h => h) (Or.inl ⟨by rfl, by intro w hSw; clear hHeld hSw; go_simp; (try rfl)⟩) (by assumption) ?_
        simp only [Act.put, List.setIfInBounds_toArray, List.set_cons_zero, List.set_cons_succ, List.getElem_toArray, List.getElem_cons_succ, List.getElem_cons_zero]
        refine wpAnyH_take (i := 4) (v := .agg KZ.cells) rfl (by kernel_rfl) (by kernel_rfl) (by kernel_rfl) (fun _ _ _ h => h) (Or.inl ⟨by rfl, by intro w hSw; clear hHeld hSw; go_simp; (try rfl)⟩) (by assumption) ?_
        simp only [Act.put, List.setIfInBounds_toArray, List.set_cons_zero, List.set_cons_succ, List.getElem_toArray, List.getElem_cons_succ, List.getElem_cons_zero]
        refine wpAnyH_take (i := 5) (v := v2) rfl (by kernel_rfl) (by kernel_rfl) (by kernel_rfl) (fun _ _ _ h => h) (Or.inl ⟨by rfl, by intro w hSw; clear hHeld hSw; go_simp; (try rfl)⟩) (by assumption) ?_
        simp only [Act.put, List.setIfInBounds_toArray, List.set_cons_zero, List.set_cons_succ, List.getElem_toArray, List.getElem_cons_succ, List.getElem_cons_zero]
        refine wpAnyH_take (i := 6) (v := .int .i64 20) rfl (by kernel_rfl) (by kernel_rfl) (by kernel_rfl) (fun _ _ _ h => h) (Or.inl ⟨by rfl, by intro w hSw; clear hHeld hSw; go_simp; (try rfl)⟩) (by assumption) ?_
        simp only [Act.put, List.setIfInBounds_toArray, List.set_cons_zero, List.set_cons_succ, List.getElem_toArray, List.getElem_cons_succ, List.getElem_cons_zero]
        have HBA := Lib.hid (show Below w14.heap.size w14 (w1.setRow (w14.heap.size) KZ.cells) from below_setRow' HB1.out HTA _)
        refine wpAnyH_ready (rs := [8]) (by kernel_rfl) (by simp) ?_
        refine AllReadyH.cons (i := 8) (rs := []) rfl ?_ AllReadyH.nil
        intro Kq hKq
        simp only [List.getElem_toArray, List.getElem_cons_succ, List.getElem_cons_zero]
        rw [if_pos (by rfl)]
        refine wp_store_row 27 (.tmp 12) (.tmp 81) (by rfl) (w14.heap.size) KZ.cells (by as_aux_lemma => kernel_rfl) (by as_aux_lemma => kernel_rfl) 27 #[.int .u8 0, .int .u8 0, .int .u8 0, .int .u8 0, .int .u8 0, .int .u8 0, .int .u8 0, .int .u8 0, .int .u8 0, .int .u8 0, .int .u8 0, .int .u8 0, .int .u8 0, .int .i64 0, .int .i64 0, .int .i64 0, .int .i64 0] HRT.out HIKZ.out (by as_aux_lemma => kernel_rfl) (one_cells _) ?_
        refine hKq.out _ _ (HBA.out) (fun hHeld2 => ?_)
        clear hKq Kq hHeld
        have hHeld := hHeld2
        clear hHeld2
        simp only [Act.put, List.setIfInBounds_toArray, List.set_cons_zero, List.set_cons_succ]
        refine wpAnyH_take (i := 9) (v := v2) rfl (by kernel_rfl) (by kernel_rfl) (by kernel_rfl) (fun _ _ _ h => h) (Or.inl ⟨by rfl, by intro w hSw; clear hHeld hSw; go_simp; (try rfl)⟩) (by assumption) ?_
        simp only [Act.put, List.setIfInBounds_toArray, List.set_cons_zero, List.set_cons_succ, List.getElem_toArray, List.getElem_cons_succ, List.getElem_cons_zero]
        refine wpAnyH_take (i := 10) (v := .int .i64 20) rfl (by kernel_rfl) (by kernel_rfl) (by kernel_rfl) (fun _ _ _ h => h) (Or.inl ⟨by rfl, by intro w hSw; clear hHeld hSw; go_simp; (try rfl)⟩) (by assumption) ?_
        simp only [Act.put, List.setIfInBounds_toArray, List.set_cons_zero, List.set_cons_succ, List.getElem_toArray, List.getElem_cons_succ, List.getElem_cons_zero]
        clear hHeld
        refine wpAnyH_done (by kernel_rfl) ?_ _
        have HT : w14.heap.size ≤ w14.heap.size ∧ (w1.setRow (w14.heap.size) KZ.cells).heap[w14.heap.size]? = some (.cells KZ.cells 27) ∧ Below w14.heap.size w14 (w1.setRow (w14.heap.size) KZ.cells) ∧ ListOk (fun b => w14.heap.size ≤ b) (w1.setRow (w14.heap.size) KZ.cells) v2 ([] : List (List Int)) := ⟨HTA, setRow_heap _ _ _ _ _ _ HRT.out, HBA.out, ((hO.setRow (w14.heap.size) HTL KZ.cells).listOk no_ok (Nat.le_trans (show 0 ≤ 2 by decide) (by unfold maxLen; decide))).mono (fun b q => Nat.le_trans HSZ0 q)⟩
        go_wp2_with fail
        go_meet
        case rel => exact ⟨_, _, rfl, rfl, rfl, HT⟩
  case rest =>
    as_aux_lemma =>
      obtain ⟨T, v2, rfl, rfl, rfl, hT, rT, hb, lx⟩ := hcut
      clear lx rT
      obtain ⟨w15, hwe⟩ : ∃ q, q = wc := ⟨_, rfl⟩
      subst hwe
      have RKw15 := Lib.hid (show w15.heap[w12.heap.size]? = some (.cells K.cells 27) from row_below hb RKw14.out)
      have lRKw15 : w12.heap.size < w15.heap.size := row_lt RKw15.out
      have HBw15 := Lib.hid (below_step HBw14.out hb)
      clear hb
      go_upto_region 7 with fail
      go_cut [15, 16, 17] (fun t10 t11 t12 wx => ∃ T v2, t10 = .pointer (some ⟨T, 0, none⟩) ∧ t11 = v2 ∧ t12 = .int .i64 10 ∧ w15.heap.size ≤ T ∧ wx.heap[T]? = some (.cells KZ.cells 27) ∧ Below w15.heap.size w15 wx ∧ ListOk (fun b => w15.heap.size ≤ b) wx v2 [])
      case first =>
        as_aux_lemma =>
          refine wp_region_held_drew (S := fun w' => Below w15.heap.size w15 w') (by kernel_rfl) ((Below.refl _ _).drew) (fun hHeld => ?_)
          refine wpAnyH_take (i := 0) (v := .agg K.cells) rfl (by kernel_rfl) (by kernel_rfl) (by kernel_rfl) (fun _ _ _ h => h) (yields_sub (by rfl) 27 _ rfl (w12.heap.size) 0 (by rfl) K.cells _ (fun w' h' => range_row (row_below h' RKw15.out)) Try.underlying27 rfl HIK.out) (by assumption) ?_
          simp only [Act.put, List.setIfInBounds_toArray, List.set_cons_zero, List.set_cons_succ, List.getElem_toArray, List.getElem_cons_succ, List.getElem_cons_zero]
          refine wpAnyH_ready (rs := [1, 8]) (by kernel_rfl) (by simp) ?_
          refine AllReadyH.cons (i := 1) (rs := [8]) rfl ?_ (AllReadyH.cons (i := 8) (rs := []) rfl ?_ AllReadyH.nil)
          · intro Kq hKq
            simp only [List.getElem_toArray, List.getElem_cons_succ, List.getElem_cons_zero]
            rw [if_pos (by rfl)]
            refine wp_call_fn 34 #[.int .i64 1] (_) (by as_aux_lemma => kernel_rfl) (open_any 1 (by decide) (by decide) _) ?_
            rintro e wo ⟨mv, rfl, hM, hbo⟩
            refine ⟨mv, rfl, ?_⟩
            refine hKq.out _ _ ((hHeld.trans (hbo.mono hHeld.size))) (fun hHeld2 => ?_)
            clear hKq Kq hHeld
            have hHeld := hHeld2
            clear hHeld2
            simp only [Act.put, List.setIfInBounds_toArray, List.set_cons_zero, List.set_cons_succ]
            obtain ⟨ob, rfl⟩ := msg_form hM rfl
            have HMI := Lib.hid (short_in hM)
            refine wpAnyH_take (i := 2) (v := .slice (some ⟨ob, 0, none⟩) 4 5) rfl (by kernel_rfl) (by kernel_rfl) (by kernel_rfl) (fun _ _ _ h => h) (Or.inl ⟨by rfl, by intro w hSw; clear hHeld hSw; go_simp; (try rfl)⟩) (by assumption) ?_
            simp only [Act.put, List.setIfInBounds_toArray, List.set_cons_zero, List.set_cons_succ, List.getElem_toArray, List.getElem_cons_succ, List.getElem_cons_zero]
            refine wpAnyH_ready (rs := [3, 8]) (by kernel_rfl) (by simp) ?_
            refine AllReadyH.cons (i := 3) (rs := [8]) rfl ?_ (AllReadyH.cons (i := 8) (rs := []) rfl ?_ AllReadyH.nil)
            · intro Kq hKq
              simp only [List.getElem_toArray, List.getElem_cons_succ, List.getElem_cons_zero]
              rw [if_pos (by rfl)]
              have HSZ0 : w15.heap.size ≤ (wo).heap.size := hHeld.size
              refine wp_call_fn 20 #[.agg K.cells, .slice (some ⟨ob, 0, none⟩) 4 5, .int .i64 0] (_) (by as_aux_lemma => kernel_rfl) (H2.out _ _ HMI.out) ?_
              rintro e w1 ⟨v2, rfl, hO, hb⟩
              refine ⟨.tuple #[.agg KZ.cells, v2, .int .i64 10], rfl, ?_⟩
              have HB1 := Lib.hid (hHeld.trans (hb.mono HSZ0))
              have HBZ : w15.heap.size ≤ w1.heap.size := HB1.out.size
              refine hKq.out _ _ (HB1.out) (fun hHeld2 => ?_)
              clear hKq Kq hHeld
              have hHeld := hHeld2
              clear hHeld2
              simp only [Act.put, List.setIfInBounds_toArray, List.set_cons_zero, List.set_cons_succ]
              refine wpAnyH_take (i := 4) (v := .tuple #[.agg KZ.cells, v2, .int .i64 10]) rfl (by kernel_rfl) (by kernel_rfl) (by kernel_rfl) (fun _ _ _ h => h) (Or.inl ⟨by rfl, by intro w hSw; clear hHeld hSw; go_simp; (try rfl)⟩) (by assumption) ?_
              simp only [Act.put, List.setIfInBounds_toArray, List.set_cons_zero, List.set_cons_succ, List.getElem_toArray, List.getElem_cons_succ, List.getElem_cons_zero]
              refine wpAnyH_take (i := 5) (v := .agg KZ.cells) rfl (by kernel_rfl) (by kernel_rfl) (by kernel_rfl) (fun _ _ _ h => h) (Or.inl ⟨by rfl, by intro w hSw; clear hHeld hSw; go_simp; (try rfl)⟩) (by assumption) ?_
              simp only [Act.put, List.setIfInBounds_toArray, List.set_cons_zero, List.set_cons_succ, List.getElem_toArray, List.getElem_cons_succ, List.getElem_cons_zero]
              refine wpAnyH_take (i := 6) (v := v2) rfl (by kernel_rfl) (by kernel_rfl) (by kernel_rfl) (fun _ _ _ h => h) (Or.inl ⟨by rfl, by intro w hSw; clear hHeld hSw; go_simp; (try rfl)⟩) (by assumption) ?_
              simp only [Act.put, List.setIfInBounds_toArray, List.set_cons_zero, List.set_cons_succ, List.getElem_toArray, List.getElem_cons_succ, List.getElem_cons_zero]
              refine wpAnyH_take (i := 7) (v := .int .i64 10) rfl (by kernel_rfl) (by kernel_rfl) (by kernel_rfl) (fun _ _ _ h => h) (Or.inl ⟨by rfl, by intro w hSw; clear hHeld hSw; go_simp; (try rfl)⟩) (by assumption) ?_
              simp only [Act.put, List.setIfInBounds_toArray, List.set_cons_zero, List.set_cons_succ, List.getElem_toArray, List.getElem_cons_succ, List.getElem_cons_zero]
              refine wpAnyH_ready (rs := [8]) (by kernel_rfl) (by simp) ?_
              refine AllReadyH.cons (i := 8) (rs := []) rfl ?_ AllReadyH.nil
              intro Kq hKq
              simp only [List.getElem_toArray, List.getElem_cons_succ, List.getElem_cons_zero]
              rw [if_pos (by rfl)]
              have HTA : w15.heap.size ≤ w1.heap.size := hHeld.size
              refine wp_op_value (.pointer (some ⟨w1.heap.size, 0, none⟩)) (w1.alloc (.cells #[.int .u8 0, .int .u8 0, .int .u8 0, .int .u8 0, .int .u8 0, .int .u8 0, .int .u8 0, .int .u8 0, .int .u8 0, .int .u8 0, .int .u8 0, .int .u8 0, .int .u8 0, .int .i64 0, .int .i64 0, .int .i64 0, .int .i64 0] 27)) (by as_aux_lemma => kernel_rfl) ?_
              refine hKq.out _ _ ((hHeld.alloc hHeld.size _)) (fun hHeld2 => ?_)
              clear hKq Kq hHeld
              have hHeld := hHeld2
              clear hHeld2
              simp only [Act.put, List.setIfInBounds_toArray, List.set_cons_zero, List.set_cons_succ]
              have HBA := Lib.hid (show Below w15.heap.size w15 (w1.alloc (.cells KZ.cells 27)) from HB1.out.alloc HBZ _)
              refine wpAnyH_ready (rs := [9]) (by kernel_rfl) (by simp) ?_
              refine AllReadyH.cons (i := 9) (rs := []) rfl ?_ AllReadyH.nil
              intro Kq hKq
              simp only [List.getElem_toArray, List.getElem_cons_succ, List.getElem_cons_zero]
              rw [if_pos (by rfl)]
              refine wp_store_row 27 (.tmp 15) (.tmp 89) (by rfl) (w1.heap.size) KZ.cells (by as_aux_lemma => kernel_rfl) (by as_aux_lemma => kernel_rfl) 27 #[.int .u8 0, .int .u8 0, .int .u8 0, .int .u8 0, .int .u8 0, .int .u8 0, .int .u8 0, .int .u8 0, .int .u8 0, .int .u8 0, .int .u8 0, .int .u8 0, .int .u8 0, .int .i64 0, .int .i64 0, .int .i64 0, .int .i64 0] (heap_alloc_new _ _) HIKZ.out (by as_aux_lemma => kernel_rfl) (one_cells _) ?_
              rw [setRow_alloc]
              refine hKq.out _ _ (HBA.out) (fun hHeld2 => ?_)
              clear hKq Kq hHeld
              have hHeld := hHeld2
              clear hHeld2
              simp only [Act.put, List.setIfInBounds_toArray, List.set_cons_zero, List.set_cons_succ]
              refine wpAnyH_take (i := 10) (v := v2) rfl (by kernel_rfl) (by kernel_rfl) (by kernel_rfl) (fun _ _ _ h => h) (Or.inl ⟨by rfl, by intro w hSw; clear hHeld hSw; go_simp; (try rfl)⟩) (by assumption) ?_
              simp only [Act.put, List.setIfInBounds_toArray, List.set_cons_zero, List.set_cons_succ, List.getElem_toArray, List.getElem_cons_succ, List.getElem_cons_zero]
              refine wpAnyH_take (i := 11) (v := .int .i64 10) rfl (by kernel_rfl) (by kernel_rfl) (by kernel_rfl) (fun _ _ _ h => h) (Or.inl ⟨by rfl, by intro w hSw; clear hHeld hSw; go_simp; (try rfl)⟩) (by assumption) ?_
              simp only [Act.put, List.setIfInBounds_toArray, List.set_cons_zero, List.set_cons_succ, List.getElem_toArray, List.getElem_cons_succ, List.getElem_cons_zero]
              clear hHeld
              refine wpAnyH_done (by kernel_rfl) ?_ _
              have HT : w15.heap.size ≤ w1.heap.size ∧ (w1.alloc (.cells KZ.cells 27)).heap[w1.heap.size]? = some (.cells KZ.cells 27) ∧ Below w15.heap.size w15 (w1.alloc (.cells KZ.cells 27)) ∧ ListOk (fun b => w15.heap.size ≤ b) (w1.alloc (.cells KZ.cells 27)) v2 ([] : List (List Int)) := ⟨HBZ, heap_alloc_new _ _, HBA.out, ((hO.listOk no_ok (Nat.le_trans (show 0 ≤ 2 by decide) (by unfold maxLen; decide))).mono (fun b q => Nat.le_trans HSZ0 q)).keep (kept_below ((Below.refl _ _).alloc (Nat.le_refl _) _))⟩
              go_wp2_with fail
              go_meet
              case rel => exact ⟨_, _, rfl, rfl, rfl, HT⟩
            · intro Kq hKq
              simp only [List.getElem_toArray, List.getElem_cons_succ, List.getElem_cons_zero]
              rw [if_pos (by rfl)]
              have HTA : w15.heap.size ≤ wo.heap.size := hHeld.size
              refine wp_op_value (.pointer (some ⟨wo.heap.size, 0, none⟩)) (wo.alloc (.cells #[.int .u8 0, .int .u8 0, .int .u8 0, .int .u8 0, .int .u8 0, .int .u8 0, .int .u8 0, .int .u8 0, .int .u8 0, .int .u8 0, .int .u8 0, .int .u8 0, .int .u8 0, .int .i64 0, .int .i64 0, .int .i64 0, .int .i64 0] 27)) (by as_aux_lemma => kernel_rfl) ?_
              refine hKq.out _ _ ((hHeld.alloc hHeld.size _)) (fun hHeld2 => ?_)
              clear hKq Kq hHeld
              have hHeld := hHeld2
              clear hHeld2
              simp only [Act.put, List.setIfInBounds_toArray, List.set_cons_zero, List.set_cons_succ]
              refine wpAnyH_ready (rs := [3]) (by kernel_rfl) (by simp) ?_
              refine AllReadyH.cons (i := 3) (rs := []) rfl ?_ AllReadyH.nil
              intro Kq hKq
              simp only [List.getElem_toArray, List.getElem_cons_succ, List.getElem_cons_zero]
              rw [if_pos (by rfl)]
              have HSZ0 : w15.heap.size ≤ ((wo.alloc (.cells #[.int .u8 0, .int .u8 0, .int .u8 0, .int .u8 0, .int .u8 0, .int .u8 0, .int .u8 0, .int .u8 0, .int .u8 0, .int .u8 0, .int .u8 0, .int .u8 0, .int .u8 0, .int .i64 0, .int .i64 0, .int .i64 0, .int .i64 0] 27))).heap.size := hHeld.size
              refine wp_call_fn 20 #[.agg K.cells, .slice (some ⟨ob, 0, none⟩) 4 5, .int .i64 0] (_) (by as_aux_lemma => kernel_rfl) (H2.out _ _ (MsgIn.below HMI.out ((Below.refl _ _).alloc (Nat.le_refl _) _))) ?_
              rintro e w1 ⟨v2, rfl, hO, hb⟩
              refine ⟨.tuple #[.agg KZ.cells, v2, .int .i64 10], rfl, ?_⟩
              have HB1 := Lib.hid (hHeld.trans (hb.mono HSZ0))
              have HBZ : w15.heap.size ≤ w1.heap.size := HB1.out.size
              refine hKq.out _ _ (HB1.out) (fun hHeld2 => ?_)
              clear hKq Kq hHeld
              have hHeld := hHeld2
              clear hHeld2
              simp only [Act.put, List.setIfInBounds_toArray, List.set_cons_zero, List.set_cons_succ]
              have HRT := Lib.hid (row_below hb (heap_alloc_new _ _))
              have HTL : wo.heap.size < ((wo.alloc (.cells #[.int .u8 0, .int .u8 0, .int .u8 0, .int .u8 0, .int .u8 0, .int .u8 0, .int .u8 0, .int .u8 0, .int .u8 0, .int .u8 0, .int .u8 0, .int .u8 0, .int .u8 0, .int .i64 0, .int .i64 0, .int .i64 0, .int .i64 0] 27))).heap.size := lt_alloc _ _
              refine wpAnyH_take (i := 4) (v := .tuple #[.agg KZ.cells, v2, .int .i64 10]) rfl (by kernel_rfl) (by kernel_rfl) (by kernel_rfl) (fun _ _ _ h => h) (Or.inl ⟨by rfl, by intro w hSw; clear hHeld hSw; go_simp; (try rfl)⟩) (by assumption) ?_
              simp only [Act.put, List.setIfInBounds_toArray, List.set_cons_zero, List.set_cons_succ, List.getElem_toArray, List.getElem_cons_succ, List.getElem_cons_zero]
              refine wpAnyH_take (i := 5) (v := .agg KZ.cells) rfl (by kernel_rfl) (by kernel_rfl) (by kernel_rfl) (fun _ _ _ h => h) (Or.inl ⟨by rfl, by intro w hSw; clear hHeld hSw; go_simp; (try rfl)⟩) (by assumption) ?_
              simp only [Act.put, List.setIfInBounds_toArray, List.set_cons_zero, List.set_cons_succ, List.getElem_toArray, List.getElem_cons_succ, List.getElem_cons_zero]
              refine wpAnyH_take (i := 6) (v := v2) rfl (by kernel_rfl) (by kernel_rfl) (by kernel_rfl) (fun _ _ _ h => h) (Or.inl ⟨by rfl, by intro w hSw; clear hHeld hSw; go_simp; (try rfl)⟩) (by assumption) ?_
              simp only [Act.put, List.setIfInBounds_toArray, List.set_cons_zero, List.set_cons_succ, List.getElem_toArray, List.getElem_cons_succ, List.getElem_cons_zero]
              refine wpAnyH_take (i := 7) (v := .int .i64 10) rfl (by kernel_rfl) (by kernel_rfl) (by kernel_rfl) (fun _ _ _ h => h) (Or.inl ⟨by rfl, by intro w hSw; clear hHeld hSw; go_simp; (try rfl)⟩) (by assumption) ?_
              simp only [Act.put, List.setIfInBounds_toArray, List.set_cons_zero, List.set_cons_succ, List.getElem_toArray, List.getElem_cons_succ, List.getElem_cons_zero]
              have HBA := Lib.hid (show Below w15.heap.size w15 (w1.setRow (wo.heap.size) KZ.cells) from below_setRow' HB1.out HTA _)
              refine wpAnyH_ready (rs := [9]) (by kernel_rfl) (by simp) ?_
              refine AllReadyH.cons (i := 9) (rs := []) rfl ?_ AllReadyH.nil
              intro Kq hKq
              simp only [List.getElem_toArray, List.getElem_cons_succ, List.getElem_cons_zero]
              rw [if_pos (by rfl)]
              refine wp_store_row 27 (.tmp 15) (.tmp 89) (by rfl) (wo.heap.size) KZ.cells (by as_aux_lemma => kernel_rfl) (by as_aux_lemma => kernel_rfl) 27 #[.int .u8 0, .int .u8 0, .int .u8 0, .int .u8 0, .int .u8 0, .int .u8 0, .int .u8 0, .int .u8 0, .int .u8 0, .int .u8 0, .int .u8 0, .int .u8 0, .int .u8 0, .int .i64 0, .int .i64 0, .int .i64 0, .int .i64 0] HRT.out HIKZ.out (by as_aux_lemma => kernel_rfl) (one_cells _) ?_
              refine hKq.out _ _ (HBA.out) (fun hHeld2 => ?_)
              clear hKq Kq hHeld
              have hHeld := hHeld2
              clear hHeld2
              simp only [Act.put, List.setIfInBounds_toArray, List.set_cons_zero, List.set_cons_succ]
              refine wpAnyH_take (i := 10) (v := v2) rfl (by kernel_rfl) (by kernel_rfl) (by kernel_rfl) (fun _ _ _ h => h) (Or.inl ⟨by rfl, by intro w hSw; clear hHeld hSw; go_simp; (try rfl)⟩) (by assumption) ?_
              simp only [Act.put, List.setIfInBounds_toArray, List.set_cons_zero, List.set_cons_succ, List.getElem_toArray, List.getElem_cons_succ, List.getElem_cons_zero]
              refine wpAnyH_take (i := 11) (v := .int .i64 10) rfl (by kernel_rfl) (by kernel_rfl) (by kernel_rfl) (fun _ _ _ h => h) (Or.inl ⟨by rfl, by intro w hSw; clear hHeld hSw; go_simp; (try rfl)⟩) (by assumption) ?_
              simp only [Act.put, List.setIfInBounds_toArray, List.set_cons_zero, List.set_cons_succ, List.getElem_toArray, List.getElem_cons_succ, List.getElem_cons_zero]
              clear hHeld
              refine wpAnyH_done (by kernel_rfl) ?_ _
              have HT : w15.heap.size ≤ wo.heap.size ∧ (w1.setRow (wo.heap.size) KZ.cells).heap[wo.heap.size]? = some (.cells KZ.cells 27) ∧ Below w15.heap.size w15 (w1.setRow (wo.heap.size) KZ.cells) ∧ ListOk (fun b => w15.heap.size ≤ b) (w1.setRow (wo.heap.size) KZ.cells) v2 ([] : List (List Int)) := ⟨HTA, setRow_heap _ _ _ _ _ _ HRT.out, HBA.out, ((hO.setRow (wo.heap.size) HTL KZ.cells).listOk no_ok (Nat.le_trans (show 0 ≤ 2 by decide) (by unfold maxLen; decide))).mono (fun b q => Nat.le_trans HSZ0 q)⟩
              go_wp2_with fail
              go_meet
              case rel => exact ⟨_, _, rfl, rfl, rfl, HT⟩
          · intro Kq hKq
            simp only [List.getElem_toArray, List.getElem_cons_succ, List.getElem_cons_zero]
            rw [if_pos (by rfl)]
            have HTA : w15.heap.size ≤ w15.heap.size := hHeld.size
            refine wp_op_value (.pointer (some ⟨w15.heap.size, 0, none⟩)) (w15.drew.alloc (.cells #[.int .u8 0, .int .u8 0, .int .u8 0, .int .u8 0, .int .u8 0, .int .u8 0, .int .u8 0, .int .u8 0, .int .u8 0, .int .u8 0, .int .u8 0, .int .u8 0, .int .u8 0, .int .i64 0, .int .i64 0, .int .i64 0, .int .i64 0] 27)) (by as_aux_lemma => kernel_rfl) ?_
            refine hKq.out _ _ ((hHeld.alloc hHeld.size _)) (fun hHeld2 => ?_)
            clear hKq Kq hHeld
            have hHeld := hHeld2
            clear hHeld2
            simp only [Act.put, List.setIfInBounds_toArray, List.set_cons_zero, List.set_cons_succ]
            refine wpAnyH_ready (rs := [1]) (by kernel_rfl) (by simp) ?_
            refine AllReadyH.cons (i := 1) (rs := []) rfl ?_ AllReadyH.nil
            intro Kq hKq
            simp only [List.getElem_toArray, List.getElem_cons_succ, List.getElem_cons_zero]
            rw [if_pos (by rfl)]
            refine wp_call_fn 34 #[.int .i64 1] (_) (by as_aux_lemma => kernel_rfl) (open_any 1 (by decide) (by decide) _) ?_
            rintro e wo ⟨mv, rfl, hM, hbo⟩
            refine ⟨mv, rfl, ?_⟩
            refine hKq.out _ _ ((hHeld.trans (hbo.mono hHeld.size))) (fun hHeld2 => ?_)
            clear hKq Kq hHeld
            have hHeld := hHeld2
            clear hHeld2
            simp only [Act.put, List.setIfInBounds_toArray, List.set_cons_zero, List.set_cons_succ]
            have HRO := Lib.hid (row_below hbo (heap_alloc_new _ _))
            obtain ⟨ob, rfl⟩ := msg_form hM rfl
            have HMI := Lib.hid (short_in hM)
            refine wpAnyH_take (i := 2) (v := .slice (some ⟨ob, 0, none⟩) 4 5) rfl (by kernel_rfl) (by kernel_rfl) (by kernel_rfl) (fun _ _ _ h => h) (Or.inl ⟨by rfl, by intro w hSw; clear hHeld hSw; go_simp; (try rfl)⟩) (by assumption) ?_
            simp only [Act.put, List.setIfInBounds_toArray, List.set_cons_zero, List.set_cons_succ, List.getElem_toArray, List.getElem_cons_succ, List.getElem_cons_zero]
            refine wpAnyH_ready (rs := [3]) (by kernel_rfl) (by simp) ?_
            refine AllReadyH.cons (i := 3) (rs := []) rfl ?_ AllReadyH.nil
            intro Kq hKq
            simp only [List.getElem_toArray, List.getElem_cons_succ, List.getElem_cons_zero]
            rw [if_pos (by rfl)]
            have HSZ0 : w15.heap.size ≤ (wo).heap.size := hHeld.size
            refine wp_call_fn 20 #[.agg K.cells, .slice (some ⟨ob, 0, none⟩) 4 5, .int .i64 0] (_) (by as_aux_lemma => kernel_rfl) (H2.out _ _ HMI.out) ?_
            rintro e w1 ⟨v2, rfl, hO, hb⟩
            refine ⟨.tuple #[.agg KZ.cells, v2, .int .i64 10], rfl, ?_⟩
            have HB1 := Lib.hid (hHeld.trans (hb.mono HSZ0))
            have HBZ : w15.heap.size ≤ w1.heap.size := HB1.out.size
            refine hKq.out _ _ (HB1.out) (fun hHeld2 => ?_)
            clear hKq Kq hHeld
            have hHeld := hHeld2
            clear hHeld2
            simp only [Act.put, List.setIfInBounds_toArray, List.set_cons_zero, List.set_cons_succ]
            have HRT := Lib.hid (row_below hb HRO.out)
            have HTL : w15.heap.size < (wo).heap.size := Nat.lt_of_lt_of_le (lt_alloc _ _) hbo.size
            refine wpAnyH_take (i := 4) (v := .tuple #[.agg KZ.cells, v2, .int .i64 10]) rfl (by kernel_rfl) (by kernel_rfl) (by kernel_rfl) (fun _ _ _ h => h) (Or.inl ⟨by rfl, by intro w hSw; clear hHeld hSw; go_simp; (try rfl)⟩) (by assumption) ?_
            simp only [Act.put, List.setIfInBounds_toArray, List.set_cons_zero, List.set_cons_succ, List.getElem_toArray, List.getElem_cons_succ, List.getElem_cons_zero]
            refine wpAnyH_take (i := 5) (v := .agg KZ.cells) rfl (by kernel_rfl) (by kernel_rfl) (by kernel_rfl) (fun _ _ _ h => h) (Or.inl ⟨by rfl, by intro w hSw; clear hHeld hSw; go_simp; (try rfl)⟩) (by assumption) ?_
            simp only [Act.put, List.setIfInBounds_toArray, List.set_cons_zero, List.set_cons_succ, List.getElem_toArray, List.getElem_cons_succ, List.getElem_cons_zero]
            refine wpAnyH_take (i := 6) (v := v2) rfl (by kernel_rfl) (by kernel_rfl) (by kernel_rfl) (fun _ _ _ h => h) (Or.inl ⟨by rfl, by intro w hSw; clear hHeld hSw; go_simp; (try rfl)⟩) (by assumption) ?_
            simp only [Act.put, List.setIfInBounds_toArray, List.set_cons_zero, List.set_cons_succ, List.getElem_toArray, List.getElem_cons_succ, List.getElem_cons_zero]
            refine wpAnyH_take (i := 7) (v := .int .i64 10) rfl (by kernel_rfl) (by kernel_rfl) (by kernel_rfl) (fun _ _ _ h => h) (Or.inl ⟨by rfl, by intro w hSw; clear hHeld hSw; go_simp; (try rfl)⟩) (by assumption) ?_
            simp only [Act.put, List.setIfInBounds_toArray, List.set_cons_zero, List.set_cons_succ, List.getElem_toArray, List.getElem_cons_succ, List.getElem_cons_zero]
            have HBA := Lib.hid (show Below w15.heap.size w15 (w1.setRow (w15.heap.size) KZ.cells) from below_setRow' HB1.out HTA _)
            refine wpAnyH_ready (rs := [9]) (by kernel_rfl) (by simp) ?_
            refine AllReadyH.cons (i := 9) (rs := []) rfl ?_ AllReadyH.nil
            intro Kq hKq
            simp only [List.getElem_toArray, List.getElem_cons_succ, List.getElem_cons_zero]
            rw [if_pos (by rfl)]
            refine wp_store_row 27 (.tmp 15) (.tmp 89) (by rfl) (w15.heap.size) KZ.cells (by as_aux_lemma => kernel_rfl) (by as_aux_lemma => kernel_rfl) 27 #[.int .u8 0, .int .u8 0, .int .u8 0, .int .u8 0, .int .u8 0, .int .u8 0, .int .u8 0, .int .u8 0, .int .u8 0, .int .u8 0, .int .u8 0, .int .u8 0, .int .u8 0, .int .i64 0, .int .i64 0, .int .i64 0, .int .i64 0] HRT.out HIKZ.out (by as_aux_lemma => kernel_rfl) (one_cells _) ?_
            refine hKq.out _ _ (HBA.out) (fun hHeld2 => ?_)
            clear hKq Kq hHeld
            have hHeld := hHeld2
            clear hHeld2
            simp only [Act.put, List.setIfInBounds_toArray, List.set_cons_zero, List.set_cons_succ]
            refine wpAnyH_take (i := 10) (v := v2) rfl (by kernel_rfl) (by kernel_rfl) (by kernel_rfl) (fun _ _ _ h => h) (Or.inl ⟨by rfl, by intro w hSw; clear hHeld hSw; go_simp; (try rfl)⟩) (by assumption) ?_
            simp only [Act.put, List.setIfInBounds_toArray, List.set_cons_zero, List.set_cons_succ, List.getElem_toArray, List.getElem_cons_succ, List.getElem_cons_zero]
            refine wpAnyH_take (i := 11) (v := .int .i64 10) rfl (by kernel_rfl) (by kernel_rfl) (by kernel_rfl) (fun _ _ _ h => h) (Or.inl ⟨by rfl, by intro w hSw; clear hHeld hSw; go_simp; (try rfl)⟩) (by assumption) ?_
            simp only [Act.put, List.setIfInBounds_toArray, List.set_cons_zero, List.set_cons_succ, List.getElem_toArray, List.getElem_cons_succ, List.getElem_cons_zero]
            clear hHeld
            refine wpAnyH_done (by kernel_rfl) ?_ _
            have HT : w15.heap.size ≤ w15.heap.size ∧ (w1.setRow (w15.heap.size) KZ.cells).heap[w15.heap.size]? = some (.cells KZ.cells 27) ∧ Below w15.heap.size w15 (w1.setRow (w15.heap.size) KZ.cells) ∧ ListOk (fun b => w15.heap.size ≤ b) (w1.setRow (w15.heap.size) KZ.cells) v2 ([] : List (List Int)) := ⟨HTA, setRow_heap _ _ _ _ _ _ HRT.out, HBA.out, ((hO.setRow (w15.heap.size) HTL KZ.cells).listOk no_ok (Nat.le_trans (show 0 ≤ 2 by decide) (by unfold maxLen; decide))).mono (fun b q => Nat.le_trans HSZ0 q)⟩
            go_wp2_with fail
            go_meet
            case rel => exact ⟨_, _, rfl, rfl, rfl, HT⟩
      case rest =>
        as_aux_lemma =>
          obtain ⟨T, v2, rfl, rfl, rfl, hT, rT, hb, lx⟩ := hcut
          clear lx rT
          obtain ⟨w16, hwe⟩ : ∃ q, q = wc := ⟨_, rfl⟩
          subst hwe
          have RKw16 := Lib.hid (show w16.heap[w12.heap.size]? = some (.cells K.cells 27) from row_below hb RKw15.out)
          have lRKw16 : w12.heap.size < w16.heap.size := row_lt RKw16.out
          have HBw16 := Lib.hid (below_step HBw15.out hb)
          clear hb
          go_upto_region 8 with fail
          go_cut [18, 19, 20] (fun t10 t11 t12 wx => ∃ T v2, t10 = .pointer (some ⟨T, 0, none⟩) ∧ t11 = v2 ∧ t12 = .int .i64 12 ∧ w16.heap.size ≤ T ∧ wx.heap[T]? = some (.cells KZ.cells 27) ∧ Below w16.heap.size w16 wx ∧ ListOk (fun b => w16.heap.size ≤ b) wx v2 [])
          case first =>
            as_aux_lemma =>
              refine wp_region_held_drew (S := fun w' => Below w16.heap.size w16 w') (by kernel_rfl) ((Below.refl _ _).drew) (fun hHeld => ?_)
              refine wpAnyH_take (i := 0) (v := .agg K.cells) rfl (by kernel_rfl) (by kernel_rfl) (by kernel_rfl) (fun _ _ _ h => h) (yields_sub (by rfl) 27 _ rfl (w12.heap.size) 0 (by rfl) K.cells _ (fun w' h' => range_row (row_below h' RKw16.out)) Try.underlying27 rfl HIK.out) (by assumption) ?_
              simp only [Act.put, List.setIfInBounds_toArray, List.set_cons_zero, List.set_cons_succ, List.getElem_toArray, List.getElem_cons_succ, List.getElem_cons_zero]
              refine wpAnyH_ready (rs := [1, 7]) (by kernel_rfl) (by simp) ?_
              refine AllReadyH.cons (i := 1) (rs := [7]) rfl ?_ (AllReadyH.cons (i := 7) (rs := []) rfl ?_ AllReadyH.nil)
              · intro Kq hKq
                simp only [List.getElem_toArray, List.getElem_cons_succ, List.getElem_cons_zero]
                rw [if_pos (by rfl)]
                refine wp_call_fn 34 #[.int .i64 0] (_) (by as_aux_lemma => kernel_rfl) (open_any 0 (by decide) (by decide) _) ?_
                rintro e wo ⟨mv, rfl, hM, hbo⟩
                refine ⟨mv, rfl, ?_⟩
                refine hKq.out _ _ ((hHeld.trans (hbo.mono hHeld.size))) (fun hHeld2 => ?_)
                clear hKq Kq hHeld
                have hHeld := hHeld2
                clear hHeld2
                simp only [Act.put, List.setIfInBounds_toArray, List.set_cons_zero, List.set_cons_succ]
                have HMI := Lib.hid (hM.read (msgOf_ok 1 0 0 (by decide)).2)
                refine wpAnyH_ready (rs := [2, 7]) (by kernel_rfl) (by simp) ?_
                refine AllReadyH.cons (i := 2) (rs := [7]) rfl ?_ (AllReadyH.cons (i := 7) (rs := []) rfl ?_ AllReadyH.nil)
                · intro Kq hKq
                  simp only [List.getElem_toArray, List.getElem_cons_succ, List.getElem_cons_zero]
                  rw [if_pos (by rfl)]
                  have HSZ0 : w16.heap.size ≤ (wo).heap.size := hHeld.size
                  refine wp_call_fn 20 #[.agg K.cells, mv, .int .i64 0] (_) (by as_aux_lemma => kernel_rfl) (H3.out _ _ HMI.out) ?_
                  rintro e w1 ⟨v2, rfl, hO, hb⟩
                  refine ⟨.tuple #[.agg KZ.cells, v2, .int .i64 12], rfl, ?_⟩
                  have HB1 := Lib.hid (hHeld.trans (hb.mono HSZ0))
                  have HBZ : w16.heap.size ≤ w1.heap.size := HB1.out.size
                  refine hKq.out _ _ (HB1.out) (fun hHeld2 => ?_)
                  clear hKq Kq hHeld
                  have hHeld := hHeld2
                  clear hHeld2
                  simp only [Act.put, List.setIfInBounds_toArray, List.set_cons_zero, List.set_cons_succ]
                  refine wpAnyH_take (i := 3) (v := .tuple #[.agg KZ.cells, v2, .int .i64 12]) rfl (by kernel_rfl) (by kernel_rfl) (by kernel_rfl) (fun _ _ _ h => h) (Or.inl ⟨by rfl, by intro w hSw; clear hHeld hSw; go_simp; (try rfl)⟩) (by assumption) ?_
                  simp only [Act.put, List.setIfInBounds_toArray, List.set_cons_zero, List.set_cons_succ, List.getElem_toArray, List.getElem_cons_succ, List.getElem_cons_zero]
                  refine wpAnyH_take (i := 4) (v := .agg KZ.cells) rfl (by kernel_rfl) (by kernel_rfl) (by kernel_rfl) (fun _ _ _ h => h) (Or.inl ⟨by rfl, by intro w hSw; clear hHeld hSw; go_simp; (try rfl)⟩) (by assumption) ?_
                  simp only [Act.put, List.setIfInBounds_toArray, List.set_cons_zero, List.set_cons_succ, List.getElem_toArray, List.getElem_cons_succ, List.getElem_cons_zero]
                  refine wpAnyH_take (i := 5) (v := v2) rfl (by kernel_rfl) (by kernel_rfl) (by kernel_rfl) (fun _ _ _ h => h) (Or.inl ⟨by rfl, by intro w hSw; clear hHeld hSw; go_simp; (try rfl)⟩) (by assumption) ?_
                  simp only [Act.put, List.setIfInBounds_toArray, List.set_cons_zero, List.set_cons_succ, List.getElem_toArray, List.getElem_cons_succ, List.getElem_cons_zero]
                  refine wpAnyH_take (i := 6) (v := .int .i64 12) rfl (by kernel_rfl) (by kernel_rfl) (by kernel_rfl) (fun _ _ _ h => h) (Or.inl ⟨by rfl, by intro w hSw; clear hHeld hSw; go_simp; (try rfl)⟩) (by assumption) ?_
                  simp only [Act.put, List.setIfInBounds_toArray, List.set_cons_zero, List.set_cons_succ, List.getElem_toArray, List.getElem_cons_succ, List.getElem_cons_zero]
                  refine wpAnyH_ready (rs := [7]) (by kernel_rfl) (by simp) ?_
                  refine AllReadyH.cons (i := 7) (rs := []) rfl ?_ AllReadyH.nil
                  intro Kq hKq
                  simp only [List.getElem_toArray, List.getElem_cons_succ, List.getElem_cons_zero]
                  rw [if_pos (by rfl)]
                  have HTA : w16.heap.size ≤ w1.heap.size := hHeld.size
                  refine wp_op_value (.pointer (some ⟨w1.heap.size, 0, none⟩)) (w1.alloc (.cells #[.int .u8 0, .int .u8 0, .int .u8 0, .int .u8 0, .int .u8 0, .int .u8 0, .int .u8 0, .int .u8 0, .int .u8 0, .int .u8 0, .int .u8 0, .int .u8 0, .int .u8 0, .int .i64 0, .int .i64 0, .int .i64 0, .int .i64 0] 27)) (by as_aux_lemma => kernel_rfl) ?_
                  refine hKq.out _ _ ((hHeld.alloc hHeld.size _)) (fun hHeld2 => ?_)
                  clear hKq Kq hHeld
                  have hHeld := hHeld2
                  clear hHeld2
                  simp only [Act.put, List.setIfInBounds_toArray, List.set_cons_zero, List.set_cons_succ]
                  have HBA := Lib.hid (show Below w16.heap.size w16 (w1.alloc (.cells KZ.cells 27)) from HB1.out.alloc HBZ _)
                  refine wpAnyH_ready (rs := [8]) (by kernel_rfl) (by simp) ?_
                  refine AllReadyH.cons (i := 8) (rs := []) rfl ?_ AllReadyH.nil
                  intro Kq hKq
                  simp only [List.getElem_toArray, List.getElem_cons_succ, List.getElem_cons_zero]
                  rw [if_pos (by rfl)]
                  refine wp_store_row 27 (.tmp 18) (.tmp 96) (by rfl) (w1.heap.size) KZ.cells (by as_aux_lemma => kernel_rfl) (by as_aux_lemma => kernel_rfl) 27 #[.int .u8 0, .int .u8 0, .int .u8 0, .int .u8 0, .int .u8 0, .int .u8 0, .int .u8 0, .int .u8 0, .int .u8 0, .int .u8 0, .int .u8 0, .int .u8 0, .int .u8 0, .int .i64 0, .int .i64 0, .int .i64 0, .int .i64 0] (heap_alloc_new _ _) HIKZ.out (by as_aux_lemma => kernel_rfl) (one_cells _) ?_
                  rw [setRow_alloc]
                  refine hKq.out _ _ (HBA.out) (fun hHeld2 => ?_)
                  clear hKq Kq hHeld
                  have hHeld := hHeld2
                  clear hHeld2
                  simp only [Act.put, List.setIfInBounds_toArray, List.set_cons_zero, List.set_cons_succ]
                  refine wpAnyH_take (i := 9) (v := v2) rfl (by kernel_rfl) (by kernel_rfl) (by kernel_rfl) (fun _ _ _ h => h) (Or.inl ⟨by rfl, by intro w hSw; clear hHeld hSw; go_simp; (try rfl)⟩) (by assumption) ?_
                  simp only [Act.put, List.setIfInBounds_toArray, List.set_cons_zero, List.set_cons_succ, List.getElem_toArray, List.getElem_cons_succ, List.getElem_cons_zero]
                  refine wpAnyH_take (i := 10) (v := .int .i64 12) rfl (by kernel_rfl) (by kernel_rfl) (by kernel_rfl) (fun _ _ _ h => h) (Or.inl ⟨by rfl, by intro w hSw; clear hHeld hSw; go_simp; (try rfl)⟩) (by assumption) ?_
                  simp only [Act.put, List.setIfInBounds_toArray, List.set_cons_zero, List.set_cons_succ, List.getElem_toArray, List.getElem_cons_succ, List.getElem_cons_zero]
                  clear hHeld
                  refine wpAnyH_done (by kernel_rfl) ?_ _
                  have HT : w16.heap.size ≤ w1.heap.size ∧ (w1.alloc (.cells KZ.cells 27)).heap[w1.heap.size]? = some (.cells KZ.cells 27) ∧ Below w16.heap.size w16 (w1.alloc (.cells KZ.cells 27)) ∧ ListOk (fun b => w16.heap.size ≤ b) (w1.alloc (.cells KZ.cells 27)) v2 ([] : List (List Int)) := ⟨HBZ, heap_alloc_new _ _, HBA.out, ((hO.listOk no_ok (Nat.le_trans (show 0 ≤ 2 by decide) (by unfold maxLen; decide))).mono (fun b q => Nat.le_trans HSZ0 q)).keep (kept_below ((Below.refl _ _).alloc (Nat.le_refl _) _))⟩
                  go_wp2_with fail
                  go_meet
                  case rel => exact ⟨_, _, rfl, rfl, rfl, HT⟩
                · intro Kq hKq
                  simp only [List.getElem_toArray, List.getElem_cons_succ, List.getElem_cons_zero]
                  rw [if_pos (by rfl)]
                  have HTA : w16.heap.size ≤ wo.heap.size := hHeld.size
                  refine wp_op_value (.pointer (some ⟨wo.heap.size, 0, none⟩)) (wo.alloc (.cells #[.int .u8 0, .int .u8 0, .int .u8 0, .int .u8 0, .int .u8 0, .int .u8 0, .int .u8 0, .int .u8 0, .int .u8 0, .int .u8 0, .int .u8 0, .int .u8 0, .int .u8 0, .int .i64 0, .int .i64 0, .int .i64 0, .int .i64 0] 27)) (by as_aux_lemma => kernel_rfl) ?_
                  refine hKq.out _ _ ((hHeld.alloc hHeld.size _)) (fun hHeld2 => ?_)
                  clear hKq Kq hHeld
                  have hHeld := hHeld2
                  clear hHeld2
                  simp only [Act.put, List.setIfInBounds_toArray, List.set_cons_zero, List.set_cons_succ]
                  refine wpAnyH_ready (rs := [2]) (by kernel_rfl) (by simp) ?_
                  refine AllReadyH.cons (i := 2) (rs := []) rfl ?_ AllReadyH.nil
                  intro Kq hKq
                  simp only [List.getElem_toArray, List.getElem_cons_succ, List.getElem_cons_zero]
                  rw [if_pos (by rfl)]
                  have HSZ0 : w16.heap.size ≤ ((wo.alloc (.cells #[.int .u8 0, .int .u8 0, .int .u8 0, .int .u8 0, .int .u8 0, .int .u8 0, .int .u8 0, .int .u8 0, .int .u8 0, .int .u8 0, .int .u8 0, .int .u8 0, .int .u8 0, .int .i64 0, .int .i64 0, .int .i64 0, .int .i64 0] 27))).heap.size := hHeld.size
                  refine wp_call_fn 20 #[.agg K.cells, mv, .int .i64 0] (_) (by as_aux_lemma => kernel_rfl) (H3.out _ _ (MsgIn.below HMI.out ((Below.refl _ _).alloc (Nat.le_refl _) _))) ?_
                  rintro e w1 ⟨v2, rfl, hO, hb⟩
                  refine ⟨.tuple #[.agg KZ.cells, v2, .int .i64 12], rfl, ?_⟩
                  have HB1 := Lib.hid (hHeld.trans (hb.mono HSZ0))
                  have HBZ : w16.heap.size ≤ w1.heap.size := HB1.out.size
                  refine hKq.out _ _ (HB1.out) (fun hHeld2 => ?_)
                  clear hKq Kq hHeld
                  have hHeld := hHeld2
                  clear hHeld2
                  simp only [Act.put, List.setIfInBounds_toArray, List.set_cons_zero, List.set_cons_succ]
                  have HRT := Lib.hid (row_below hb (heap_alloc_new _ _))
                  have HTL : wo.heap.size < ((wo.alloc (.cells #[.int .u8 0, .int .u8 0, .int .u8 0, .int .u8 0, .int .u8 0, .int .u8 0, .int .u8 0, .int .u8 0, .int .u8 0, .int .u8 0, .int .u8 0, .int .u8 0, .int .u8 0, .int .i64 0, .int .i64 0, .int .i64 0, .int .i64 0] 27))).heap.size := lt_alloc _ _
                  refine wpAnyH_take (i := 3) (v := .tuple #[.agg KZ.cells, v2, .int .i64 12]) rfl (by kernel_rfl) (by kernel_rfl) (by kernel_rfl) (fun _ _ _ h => h) (Or.inl ⟨by rfl, by intro w hSw; clear hHeld hSw; go_simp; (try rfl)⟩) (by assumption) ?_
                  simp only [Act.put, List.setIfInBounds_toArray, List.set_cons_zero, List.set_cons_succ, List.getElem_toArray, List.getElem_cons_succ, List.getElem_cons_zero]
                  refine wpAnyH_take (i := 4) (v := .agg KZ.cells) rfl (by kernel_rfl) (by kernel_rfl) (by kernel_rfl) (fun _ _ _ h => h) (Or.inl ⟨by rfl, by intro w hSw; clear hHeld hSw; go_simp; (try rfl)⟩) (by assumption) ?_
                  simp only [Act.put, List.setIfInBounds_toArray, List.set_cons_zero, List.set_cons_succ, List.getElem_toArray, List.getElem_cons_succ, List.getElem_cons_zero]
                  refine wpAnyH_take (i := 5) (v := v2) rfl (by kernel_rfl) (by kernel_rfl) (by kernel_rfl) (fun _ _ _ h => h) (Or.inl ⟨by rfl, by intro w hSw; clear hHeld hSw; go_simp; (try rfl)⟩) (by assumption) ?_
                  simp only [Act.put, List.setIfInBounds_toArray, List.set_cons_zero, List.set_cons_succ, List.getElem_toArray, List.getElem_cons_succ, List.getElem_cons_zero]
                  refine wpAnyH_take (i := 6) (v := .int .i64 12) rfl (by kernel_rfl) (by kernel_rfl) (by kernel_rfl) (fun _ _ _ h => h) (Or.inl ⟨by rfl, by intro w hSw; clear hHeld hSw; go_simp; (try rfl)⟩) (by assumption) ?_
                  simp only [Act.put, List.setIfInBounds_toArray, List.set_cons_zero, List.set_cons_succ, List.getElem_toArray, List.getElem_cons_succ, List.getElem_cons_zero]
                  have HBA := Lib.hid (show Below w16.heap.size w16 (w1.setRow (wo.heap.size) KZ.cells) from below_setRow' HB1.out HTA _)
                  refine wpAnyH_ready (rs := [8]) (by kernel_rfl) (by simp) ?_
                  refine AllReadyH.cons (i := 8) (rs := []) rfl ?_ AllReadyH.nil
                  intro Kq hKq
                  simp only [List.getElem_toArray, List.getElem_cons_succ, List.getElem_cons_zero]
                  rw [if_pos (by rfl)]
                  refine wp_store_row 27 (.tmp 18) (.tmp 96) (by rfl) (wo.heap.size) KZ.cells (by as_aux_lemma => kernel_rfl) (by as_aux_lemma => kernel_rfl) 27 #[.int .u8 0, .int .u8 0, .int .u8 0, .int .u8 0, .int .u8 0, .int .u8 0, .int .u8 0, .int .u8 0, .int .u8 0, .int .u8 0, .int .u8 0, .int .u8 0, .int .u8 0, .int .i64 0, .int .i64 0, .int .i64 0, .int .i64 0] HRT.out HIKZ.out (by as_aux_lemma => kernel_rfl) (one_cells _) ?_
                  refine hKq.out _ _ (HBA.out) (fun hHeld2 => ?_)
                  clear hKq Kq hHeld
                  have hHeld := hHeld2
                  clear hHeld2
                  simp only [Act.put, List.setIfInBounds_toArray, List.set_cons_zero, List.set_cons_succ]
                  refine wpAnyH_take (i := 9) (v := v2) rfl (by kernel_rfl) (by kernel_rfl) (by kernel_rfl) (fun _ _ _ h => h) (Or.inl ⟨by rfl, by intro w hSw; clear hHeld hSw; go_simp; (try rfl)⟩) (by assumption) ?_
                  simp only [Act.put, List.setIfInBounds_toArray, List.set_cons_zero, List.set_cons_succ, List.getElem_toArray, List.getElem_cons_succ, List.getElem_cons_zero]
                  refine wpAnyH_take (i := 10) (v := .int .i64 12) rfl (by kernel_rfl) (by kernel_rfl) (by kernel_rfl) (fun _ _ _ h => h) (Or.inl ⟨by rfl, by intro w hSw; clear hHeld hSw; go_simp; (try rfl)⟩) (by assumption) ?_
                  simp only [Act.put, List.setIfInBounds_toArray, List.set_cons_zero, List.set_cons_succ, List.getElem_toArray, List.getElem_cons_succ, List.getElem_cons_zero]
                  clear hHeld
                  refine wpAnyH_done (by kernel_rfl) ?_ _
                  have HT : w16.heap.size ≤ wo.heap.size ∧ (w1.setRow (wo.heap.size) KZ.cells).heap[wo.heap.size]? = some (.cells KZ.cells 27) ∧ Below w16.heap.size w16 (w1.setRow (wo.heap.size) KZ.cells) ∧ ListOk (fun b => w16.heap.size ≤ b) (w1.setRow (wo.heap.size) KZ.cells) v2 ([] : List (List Int)) := ⟨HTA, setRow_heap _ _ _ _ _ _ HRT.out, HBA.out, ((hO.setRow (wo.heap.size) HTL KZ.cells).listOk no_ok (Nat.le_trans (show 0 ≤ 2 by decide) (by unfold maxLen; decide))).mono (fun b q => Nat.le_trans HSZ0 q)⟩
                  go_wp2_with fail
                  go_meet
                  case rel => exact ⟨_, _, rfl, rfl, rfl, HT⟩
              · intro Kq hKq
                simp only [List.getElem_toArray, List.getElem_cons_succ, List.getElem_cons_zero]
                rw [if_pos (by rfl)]
                have HTA : w16.heap.size ≤ w16.heap.size := hHeld.size
                refine wp_op_value (.pointer (some ⟨w16.heap.size, 0, none⟩)) (w16.drew.alloc (.cells #[.int .u8 0, .int .u8 0, .int .u8 0, .int .u8 0, .int .u8 0, .int .u8 0, .int .u8 0, .int .u8 0, .int .u8 0, .int .u8 0, .int .u8 0, .int .u8 0, .int .u8 0, .int .i64 0, .int .i64 0, .int .i64 0, .int .i64 0] 27)) (by as_aux_lemma => kernel_rfl) ?_
                refine hKq.out _ _ ((hHeld.alloc hHeld.size _)) (fun hHeld2 => ?_)
                clear hKq Kq hHeld
                have hHeld := hHeld2
                clear hHeld2
                simp only [Act.put, List.setIfInBounds_toArray, List.set_cons_zero, List.set_cons_succ]
                refine wpAnyH_ready (rs := [1]) (by kernel_rfl) (by simp) ?_
                refine AllReadyH.cons (i := 1) (rs := []) rfl ?_ AllReadyH.nil
                intro Kq hKq
                simp only [List.getElem_toArray, List.getElem_cons_succ, List.getElem_cons_zero]
                rw [if_pos (by rfl)]
                refine wp_call_fn 34 #[.int .i64 0] (_) (by as_aux_lemma => kernel_rfl) (open_any 0 (by decide) (by decide) _) ?_
                rintro e wo ⟨mv, rfl, hM, hbo⟩
                refine ⟨mv, rfl, ?_⟩
                refine hKq.out _ _ ((hHeld.trans (hbo.mono hHeld.size))) (fun hHeld2 => ?_)
                clear hKq Kq hHeld
                have hHeld := hHeld2
                clear hHeld2
                simp only [Act.put, List.setIfInBounds_toArray, List.set_cons_zero, List.set_cons_succ]
                have HRO := Lib.hid (row_below hbo (heap_alloc_new _ _))
                have HMI := Lib.hid (hM.read (msgOf_ok 1 0 0 (by decide)).2)
                refine wpAnyH_ready (rs := [2]) (by kernel_rfl) (by simp) ?_
                refine AllReadyH.cons (i := 2) (rs := []) rfl ?_ AllReadyH.nil
                intro Kq hKq
                simp only [List.getElem_toArray, List.getElem_cons_succ, List.getElem_cons_zero]
                rw [if_pos (by rfl)]
                have HSZ0 : w16.heap.size ≤ (wo).heap.size := hHeld.size
                refine wp_call_fn 20 #[.agg K.cells, mv, .int .i64 0] (_) (by as_aux_lemma => kernel_rfl) (H3.out _ _ HMI.out) ?_
                rintro e w1 ⟨v2, rfl, hO, hb⟩
                refine ⟨.tuple #[.agg KZ.cells, v2, .int .i64 12], rfl, ?_⟩
                have HB1 := Lib.hid (hHeld.trans (hb.mono HSZ0))
                have HBZ : w16.heap.size ≤ w1.heap.size := HB1.out.size
                refine hKq.out _ _ (HB1.out) (fun hHeld2 => ?_)
                clear hKq Kq hHeld
                have hHeld := hHeld2
                clear hHeld2
                simp only [Act.put, List.setIfInBounds_toArray, List.set_cons_zero, List.set_cons_succ]
                have HRT := Lib.hid (row_below hb HRO.out)
                have HTL : w16.heap.size < (wo).heap.size := Nat.lt_of_lt_of_le (lt_alloc _ _) hbo.size
                refine wpAnyH_take (i := 3) (v := .tuple #[.agg KZ.cells, v2, .int .i64 12]) rfl (by kernel_rfl) (by kernel_rfl) (by kernel_rfl) (fun _ _ _ h => h) (Or.inl ⟨by rfl, by intro w hSw; clear hHeld hSw; go_simp; (try rfl)⟩) (by assumption) ?_
                simp only [Act.put, List.setIfInBounds_toArray, List.set_cons_zero, List.set_cons_succ, List.getElem_toArray, List.getElem_cons_succ, List.getElem_cons_zero]
                refine wpAnyH_take (i := 4) (v := .agg KZ.cells) rfl (by kernel_rfl) (by kernel_rfl) (by kernel_rfl) (fun _ _ _ h => h) (Or.inl ⟨by rfl, by intro w hSw; clear hHeld hSw; go_simp; (try rfl)⟩) (by assumption) ?_
                simp only [Act.put, List.setIfInBounds_toArray, List.set_cons_zero, List.set_cons_succ, List.getElem_toArray, List.getElem_cons_succ, List.getElem_cons_zero]
                refine wpAnyH_take (i := 5) (v := v2) rfl (by kernel_rfl) (by kernel_rfl) (by kernel_rfl) (fun _ _ _ h => h) (Or.inl ⟨by rfl, by intro w hSw; clear hHeld hSw; go_simp; (try rfl)⟩) (by assumption) ?_
                simp only [Act.put, List.setIfInBounds_toArray, List.set_cons_zero, List.set_cons_succ, List.getElem_toArray, List.getElem_cons_succ, List.getElem_cons_zero]
                refine wpAnyH_take (i := 6) (v := .int .i64 12) rfl (by kernel_rfl) (by kernel_rfl) (by kernel_rfl) (fun _ _ _ h => h) (Or.inl ⟨by rfl, by intro w hSw; clear hHeld hSw; go_simp; (try rfl)⟩) (by assumption) ?_
                simp only [Act.put, List.setIfInBounds_toArray, List.set_cons_zero, List.set_cons_succ, List.getElem_toArray, List.getElem_cons_succ, List.getElem_cons_zero]
                have HBA := Lib.hid (show Below w16.heap.size w16 (w1.setRow (w16.heap.size) KZ.cells) from below_setRow' HB1.out HTA _)
                refine wpAnyH_ready (rs := [8]) (by kernel_rfl) (by simp) ?_
                refine AllReadyH.cons (i := 8) (rs := []) rfl ?_ AllReadyH.nil
                intro Kq hKq
                simp only [List.getElem_toArray, List.getElem_cons_succ, List.getElem_cons_zero]
                rw [if_pos (by rfl)]
                refine wp_store_row 27 (.tmp 18) (.tmp 96) (by rfl) (w16.heap.size) KZ.cells (by as_aux_lemma => kernel_rfl) (by as_aux_lemma => kernel_rfl) 27 #[.int .u8 0, .int .u8 0, .int .u8 0, .int .u8 0, .int .u8 0, .int .u8 0, .int .u8 0, .int .u8 0, .int .u8 0, .int .u8 0, .int .u8 0, .int .u8 0, .int .u8 0, .int .i64 0, .int .i64 0, .int .i64 0, .int .i64 0] HRT.out HIKZ.out (by as_aux_lemma => kernel_rfl) (one_cells _) ?_
                refine hKq.out _ _ (HBA.out) (fun hHeld2 => ?_)
                clear hKq Kq hHeld
                have hHeld := hHeld2
                clear hHeld2
                simp only [Act.put, List.setIfInBounds_toArray, List.set_cons_zero, List.set_cons_succ]
                refine wpAnyH_take (i := 9) (v := v2) rfl (by kernel_rfl) (by kernel_rfl) (by kernel_rfl) (fun _ _ _ h => h) (Or.inl ⟨by rfl, by intro w hSw; clear hHeld hSw; go_simp; (try rfl)⟩) (by assumption) ?_
                simp only [Act.put, List.setIfInBounds_toArray, List.set_cons_zero, List.set_cons_succ, List.getElem_toArray, List.getElem_cons_succ, List.getElem_cons_zero]
                refine wpAnyH_take (i := 10) (v := .int .i64 12) rfl (by kernel_rfl) (by kernel_rfl) (by kernel_rfl) (fun _ _ _ h => h) (Or.inl ⟨by rfl, by intro w hSw; clear hHeld hSw; go_simp; (try rfl)⟩) (by assumption) ?_
                simp only [Act.put, List.setIfInBounds_toArray, List.set_cons_zero, List.set_cons_succ, List.getElem_toArray, List.getElem_cons_succ, List.getElem_cons_zero]
                clear hHeld
                refine wpAnyH_done (by kernel_rfl) ?_ _
                have HT : w16.heap.size ≤ w16.heap.size ∧ (w1.setRow (w16.heap.size) KZ.cells).heap[w16.heap.size]? = some (.cells KZ.cells 27) ∧ Below w16.heap.size w16 (w1.setRow (w16.heap.size) KZ.cells) ∧ ListOk (fun b => w16.heap.size ≤ b) (w1.setRow (w16.heap.size) KZ.cells) v2 ([] : List (List Int)) := ⟨HTA, setRow_heap _ _ _ _ _ _ HRT.out, HBA.out, ((hO.setRow (w16.heap.size) HTL KZ.cells).listOk no_ok (Nat.le_trans (show 0 ≤ 2 by decide) (by unfold maxLen; decide))).mono (fun b q => Nat.le_trans HSZ0 q)⟩
                go_wp2_with fail
                go_meet
                case rel => exact ⟨_, _, rfl, rfl, rfl, HT⟩
          case rest =>
            as_aux_lemma =>
              obtain ⟨T, v2, rfl, rfl, rfl, hT, rT, hb, lx⟩ := hcut
              clear lx rT
              obtain ⟨w17, hwe⟩ : ∃ q, q = wc := ⟨_, rfl⟩
              subst hwe
              have RKw17 := Lib.hid (show w17.heap[w12.heap.size]? = some (.cells K.cells 27) from row_below hb RKw16.out)
              have lRKw17 : w12.heap.size < w17.heap.size := row_lt RKw17.out
              have HBw17 := Lib.hid (below_step HBw16.out hb)
              clear hb
              go_wp2_with ((with_reducible refine wpList_load_row rfl 27 (.tmp 7) rfl (w12.heap.size) rfl 27 (K.cells) (0, 0) _ RKw17.out Try.underlying27 rfl HIK.out ?_))
              refine (S1.out _).mono ?_
              rintro e w18 ⟨v18, rfl, hO, hb⟩
              have RKw18 := Lib.hid (show w18.heap[w12.heap.size]? = some (.cells K.cells 27) from row_below hb RKw17.out)
              have lRKw18 : w12.heap.size < w18.heap.size := row_lt RKw18.out
              have HBw18 := Lib.hid (below_step HBw17.out hb)
              clear hb
              clear hO
              go_wp2_with (first
                | ((with_reducible refine wpList_store_rowTo rfl 27 (.tmp 21) (.tmp 102) rfl rfl (w18.heap.size) (KZ.cells) ?_ ?_ 27 #[.int .u8 0, .int .u8 0, .int .u8 0, .int .u8 0, .int .u8 0, .int .u8 0, .int .u8 0, .int .u8 0, .int .u8 0, .int .u8 0, .int .u8 0, .int .u8 0, .int .u8 0, .int .i64 0, .int .i64 0, .int .i64 0, .int .i64 0] (heap_alloc_at rfl) HIKZ.out rfl (one_cells _) ?_); (as_aux_lemma => kernel_rfl); (as_aux_lemma => kernel_rfl); rw [setRow_allocAt rfl])
                | (with_reducible refine wpList_load_row rfl 27 (.tmp 7) rfl (w12.heap.size) rfl 27 (K.cells) (0, 0) _ (row_alloc RKw18.out) Try.underlying27 rfl HIK.out ?_))
              refine (S2.out _).mono ?_
              rintro e w19 ⟨v19, rfl, hO, hb⟩
              have RKw19 := Lib.hid (show w19.heap[w12.heap.size]? = some (.cells K.cells 27) from row_below hb (row_alloc RKw18.out))
              have lRKw19 : w12.heap.size < w19.heap.size := row_lt RKw19.out
              have HBw19 := Lib.hid (below_step (below_more HBw18.out (.cells KZ.cells 27)) hb)
              clear hb
              have mLX_RK : w12.heap.size < w18.heap.size + 1 := Nat.lt_succ_of_lt (lRKw18)
              have hqLX : ListOk (fun b => w18.heap.size + 1 ≤ b) w19 v19 [msgOf 1 65535 0] := (hO.listOk (one_ok (msgOf_ok 1 65535 0 (by decide))) (Nat.le_trans (show _ ≤ 2 by first | (show 1 ≤ 2; decide) | (show 0 ≤ 2; decide) | (show 2 ≤ 2; decide)) (by unfold maxLen; decide))).mono (fun b q => Nat.le_trans (by first | exact Nat.le_refl _ | (simp only [World.size_alloc]; exact Nat.le_refl _)) q)
              obtain ⟨aoLX, cLX, rfl, hq1LX, hq2LX, hq3LX⟩ := hqLX
              have LXw19 := Lib.hid (show ListOk (fun b => w18.heap.size + 1 ≤ b) w19 (.slice aoLX 1 cLX) [msgOf 1 65535 0] from ⟨aoLX, cLX, rfl, hq1LX, hq2LX, hq3LX⟩)
              clear hO hq1LX hq2LX hq3LX
              have nRK_RA : w12.heap.size < w19.heap.size := lRKw19
              have gRA : w.heap.size ≤ w19.heap.size := by have hh := Below.size HBw19.out; exact hh
              go_wp2_with (first
                | ((with_reducible refine wpList_store_rowTo rfl 27 (.tmp 24) (.tmp 108) rfl rfl (w19.heap.size) (a.cells) ?_ ?_ 27 #[.int .u8 0, .int .u8 0, .int .u8 0, .int .u8 0, .int .u8 0, .int .u8 0, .int .u8 0, .int .u8 0, .int .u8 0, .int .u8 0, .int .u8 0, .int .u8 0, .int .u8 0, .int .i64 0, .int .i64 0, .int .i64 0, .int .i64 0] (heap_alloc_at rfl) HIa.out rfl (one_cells _) ?_); (as_aux_lemma => kernel_rfl); (as_aux_lemma => kernel_rfl); rw [setRow_allocAt rfl])
                | (with_reducible refine wpList_load_row rfl 27 (.tmp 24) rfl (w19.heap.size) rfl 27 (a.cells) (0, 0) _ (heap_alloc_at rfl) Try.underlying27 rfl HIa.out ?_))
              refine (S3.out _).mono ?_
              rintro e w20 ⟨v20, rfl, hO, hb⟩
              have RAw20 := Lib.hid (show w20.heap[w19.heap.size]? = some (.cells a.cells 27) from row_below hb (heap_alloc_at rfl))
              have lRAw20 : w19.heap.size < w20.heap.size := row_lt RAw20.out
              have HBw20 := Lib.hid (below_step (below_more HBw19.out (.cells a.cells 27)) hb)
              clear hb
              clear hO
              go_upto_region 12 with ((with_reducible refine wpList_store_rowTo rfl 27 (.tmp 27) (.tmp 114) rfl rfl (w20.heap.size) (KZ.cells) ?_ ?_ 27 #[.int .u8 0, .int .u8 0, .int .u8 0, .int .u8 0, .int .u8 0, .int .u8 0, .int .u8 0, .int .u8 0, .int .u8 0, .int .u8 0, .int .u8 0, .int .u8 0, .int .u8 0, .int .i64 0, .int .i64 0, .int .i64 0, .int .i64 0] (heap_alloc_at rfl) HIKZ.out rfl (one_cells _) ?_); (as_aux_lemma => kernel_rfl); (as_aux_lemma => kernel_rfl); rw [setRow_allocAt rfl])
              obtain ⟨w21, hwq⟩ : ∃ wq, wq = (w20.alloc (.cells KZ.cells 27)) := ⟨_, rfl⟩
              rw [← hwq]
              have hb : Below ((w20.alloc (.cells KZ.cells 27))).heap.size (w20.alloc (.cells KZ.cells 27)) w21 := by rw [hwq]; exact Below.refl _ _
              clear hwq
              have RAw21 := Lib.hid (show w21.heap[w19.heap.size]? = some (.cells a.cells 27) from row_below hb (row_alloc RAw20.out))
              have lRAw21 : w19.heap.size < w21.heap.size := row_lt RAw21.out
              have HBw21 := Lib.hid (below_step (below_more HBw20.out (.cells KZ.cells 27)) hb)
              clear hb
              go_cut [30, 31, 32] (fun t10 t11 t12 wx => ∃ T v2, t10 = .pointer (some ⟨T, 0, none⟩) ∧ t11 = v2 ∧ t12 = .int .i64 21 ∧ w21.heap.size ≤ T ∧ wx.heap[T]? = some (.cells KZ.cells 27) ∧ Below w21.heap.size w21 wx ∧ ListOk (fun b => w21.heap.size ≤ b) wx v2 [])
              case first =>
                as_aux_lemma =>
                  refine wp_region_held_drew (S := fun w' => Below w21.heap.size w21 w') (by kernel_rfl) ((Below.refl _ _).drew) (fun hHeld => ?_)
                  refine wpAnyH_take (i := 0) (v := .agg a.cells) rfl (by kernel_rfl) (by kernel_rfl) (by kernel_rfl) (fun _ _ _ h => h) (yields_sub (by rfl) 27 _ rfl (w19.heap.size) 0 (by rfl) a.cells _ (fun w' h' => range_row (row_below h' RAw21.out)) Try.underlying27 rfl HIa.out) (by assumption) ?_
                  simp only [Act.put, List.setIfInBounds_toArray, List.set_cons_zero, List.set_cons_succ, List.getElem_toArray, List.getElem_cons_succ, List.getElem_cons_zero]
                  refine wpAnyH_ready (rs := [1, 7]) (by kernel_rfl) (by simp) ?_
                  refine AllReadyH.cons (i := 1) (rs := [7]) rfl ?_ (AllReadyH.cons (i := 7) (rs := []) rfl ?_ AllReadyH.nil)
                  · intro Kq hKq
                    simp only [List.getElem_toArray, List.getElem_cons_succ, List.getElem_cons_zero]
                    rw [if_pos (by rfl)]
                    refine wp_call_fn 33 #[.int .i64 1, .int .i64 2] (_) (by as_aux_lemma => kernel_rfl) (confirm_any 1 2 (by decide) (by decide) (by decide) (by decide) _) ?_
                    rintro e wo ⟨mv, rfl, hM, hbo⟩
                    refine ⟨mv, rfl, ?_⟩
                    refine hKq.out _ _ ((hHeld.trans (hbo.mono hHeld.size))) (fun hHeld2 => ?_)
                    clear hKq Kq hHeld
                    have hHeld := hHeld2
                    clear hHeld2
                    simp only [Act.put, List.setIfInBounds_toArray, List.set_cons_zero, List.set_cons_succ]
                    have HMI := Lib.hid (hM.read (msgOf_ok 2 1 2 (by decide)).2)
                    refine wpAnyH_ready (rs := [2, 7]) (by kernel_rfl) (by simp) ?_
                    refine AllReadyH.cons (i := 2) (rs := [7]) rfl ?_ (AllReadyH.cons (i := 7) (rs := []) rfl ?_ AllReadyH.nil)
                    · intro Kq hKq
                      simp only [List.getElem_toArray, List.getElem_cons_succ, List.getElem_cons_zero]
                      rw [if_pos (by rfl)]
                      have HSZ0 : w21.heap.size ≤ (wo).heap.size := hHeld.size
                      refine wp_call_fn 20 #[.agg a.cells, mv, .int .i64 0] (_) (by as_aux_lemma => kernel_rfl) (H4.out _ _ HMI.out) ?_
                      rintro e w1 ⟨v2, rfl, hO, hb⟩
                      refine ⟨.tuple #[.agg KZ.cells, v2, .int .i64 21], rfl, ?_⟩
                      have HB1 := Lib.hid (hHeld.trans (hb.mono HSZ0))
                      have HBZ : w21.heap.size ≤ w1.heap.size := HB1.out.size
                      refine hKq.out _ _ (HB1.out) (fun hHeld2 => ?_)
                      clear hKq Kq hHeld
                      have hHeld := hHeld2
                      clear hHeld2
                      simp only [Act.put, List.setIfInBounds_toArray, List.set_cons_zero, List.set_cons_succ]
                      refine wpAnyH_take (i := 3) (v := .tuple #[.agg KZ.cells, v2, .int .i64 21]) rfl (by kernel_rfl) (by kernel_rfl) (by kernel_rfl) (fun _ _ _ h => h) (Or.inl ⟨by rfl, by intro w hSw; clear hHeld hSw; go_simp; (try rfl)⟩) (by assumption) ?_
                      simp only [Act.put, List.setIfInBounds_toArray, List.set_cons_zero, List.set_cons_succ, List.getElem_toArray, List.getElem_cons_succ, List.getElem_cons_zero]
                      refine wpAnyH_take (i := 4) (v := .agg KZ.cells) rfl (by kernel_rfl) (by kernel_rfl) (by kernel_rfl) (fun _ _ _ h => h) (Or.inl ⟨by rfl, by intro w hSw; clear hHeld hSw; go_simp; (try rfl)⟩) (by assumption) ?_
                      simp only [Act.put, List.setIfInBounds_toArray, List.set_cons_zero, List.set_cons_succ, List.getElem_toArray, List.getElem_cons_succ, List.getElem_cons_zero]
                      refine wpAnyH_take (i := 5) (v := v2) rfl (by kernel_rfl) (by kernel_rfl) (by kernel_rfl) (fun _ _ _ h => h) (Or.inl ⟨by rfl, by intro w hSw; clear hHeld hSw; go_simp; (try rfl)⟩) (by assumption) ?_
                      simp only [Act.put, List.setIfInBounds_toArray, List.set_cons_zero, List.set_cons_succ, List.getElem_toArray, List.getElem_cons_succ, List.getElem_cons_zero]
                      refine wpAnyH_take (i := 6) (v := .int .i64 21) rfl (by kernel_rfl) (by kernel_rfl) (by kernel_rfl) (fun _ _ _ h => h) (Or.inl ⟨by rfl, by intro w hSw; clear hHeld hSw; go_simp; (try rfl)⟩) (by assumption) ?_
                      simp only [Act.put, List.setIfInBounds_toArray, List.set_cons_zero, List.set_cons_succ, List.getElem_toArray, List.getElem_cons_succ, List.getElem_cons_zero]
                      refine wpAnyH_ready (rs := [7]) (by kernel_rfl) (by simp) ?_
                      refine AllReadyH.cons (i := 7) (rs := []) rfl ?_ AllReadyH.nil
                      intro Kq hKq
                      simp only [List.getElem_toArray, List.getElem_cons_succ, List.getElem_cons_zero]
                      rw [if_pos (by rfl)]
                      have HTA : w21.heap.size ≤ w1.heap.size := hHeld.size
                      refine wp_op_value (.pointer (some ⟨w1.heap.size, 0, none⟩)) (w1.alloc (.cells #[.int .u8 0, .int .u8 0, .int .u8 0, .int .u8 0, .int .u8 0, .int .u8 0, .int .u8 0, .int .u8 0, .int .u8 0, .int .u8 0, .int .u8 0, .int .u8 0, .int .u8 0, .int .i64 0, .int .i64 0, .int .i64 0, .int .i64 0] 27)) (by as_aux_lemma => kernel_rfl) ?_
                      refine hKq.out _ _ ((hHeld.alloc hHeld.size _)) (fun hHeld2 => ?_)
                      clear hKq Kq hHeld
                      have hHeld := hHeld2
                      clear hHeld2
                      simp only [Act.put, List.setIfInBounds_toArray, List.set_cons_zero, List.set_cons_succ]
                      have HBA := Lib.hid (show Below w21.heap.size w21 (w1.alloc (.cells KZ.cells 27)) from HB1.out.alloc HBZ _)
                      refine wpAnyH_ready (rs := [8]) (by kernel_rfl) (by simp) ?_
                      refine AllReadyH.cons (i := 8) (rs := []) rfl ?_ AllReadyH.nil
                      intro Kq hKq
                      simp only [List.getElem_toArray, List.getElem_cons_succ, List.getElem_cons_zero]
                      rw [if_pos (by rfl)]
                      refine wp_store_row 27 (.tmp 30) (.tmp 121) (by rfl) (w1.heap.size) KZ.cells (by as_aux_lemma => kernel_rfl) (by as_aux_lemma => kernel_rfl) 27 #[.int .u8 0, .int .u8 0, .int .u8 0, .int .u8 0, .int .u8 0, .int .u8 0, .int .u8 0, .int .u8 0, .int .u8 0, .int .u8 0, .int .u8 0, .int .u8 0, .int .u8 0, .int .i64 0, .int .i64 0, .int .i64 0, .int .i64 0] (heap_alloc_new _ _) HIKZ.out (by as_aux_lemma => kernel_rfl) (one_cells _) ?_
                      rw [setRow_alloc]
                      refine hKq.out _ _ (HBA.out) (fun hHeld2 => ?_)
                      clear hKq Kq hHeld
                      have hHeld := hHeld2
                      clear hHeld2
                      simp only [Act.put, List.setIfInBounds_toArray, List.set_cons_zero, List.set_cons_succ]
                      refine wpAnyH_take (i := 9) (v := v2) rfl (by kernel_rfl) (by kernel_rfl) (by kernel_rfl) (fun _ _ _ h => h) (Or.inl ⟨by rfl, by intro w hSw; clear hHeld hSw; go_simp; (try rfl)⟩) (by assumption) ?_
                      simp only [Act.put, List.setIfInBounds_toArray, List.set_cons_zero, List.set_cons_succ, List.getElem_toArray, List.getElem_cons_succ, List.getElem_cons_zero]
                      refine wpAnyH_take (i := 10) (v := .int .i64 21) rfl (by kernel_rfl) (by kernel_rfl) (by kernel_rfl) (fun _ _ _ h => h) (Or.inl ⟨by rfl, by intro w hSw; clear hHeld hSw; go_simp; (try rfl)⟩) (by assumption) ?_
                      simp only [Act.put, List.setIfInBounds_toArray, List.set_cons_zero, List.set_cons_succ, List.getElem_toArray, List.getElem_cons_succ, List.getElem_cons_zero]
                      clear hHeld
                      refine wpAnyH_done (by kernel_rfl) ?_ _
                      have HT : w21.heap.size ≤ w1.heap.size ∧ (w1.alloc (.cells KZ.cells 27)).heap[w1.heap.size]? = some (.cells KZ.cells 27) ∧ Below w21.heap.size w21 (w1.alloc (.cells KZ.cells 27)) ∧ ListOk (fun b => w21.heap.size ≤ b) (w1.alloc (.cells KZ.cells 27)) v2 ([] : List (List Int)) := ⟨HBZ, heap_alloc_new _ _, HBA.out, ((hO.listOk no_ok (Nat.le_trans (show 0 ≤ 2 by decide) (by unfold maxLen; decide))).mono (fun b q => Nat.le_trans HSZ0 q)).keep (kept_below ((Below.refl _ _).alloc (Nat.le_refl _) _))⟩
                      go_wp2_with fail
                      go_meet
                      case rel => exact ⟨_, _, rfl, rfl, rfl, HT⟩
                    · intro Kq hKq
                      simp only [List.getElem_toArray, List.getElem_cons_succ, List.getElem_cons_zero]
                      rw [if_pos (by rfl)]
                      have HTA : w21.heap.size ≤ wo.heap.size := hHeld.size
                      refine wp_op_value (.pointer (some ⟨wo.heap.size, 0, none⟩)) (wo.alloc (.cells #[.int .u8 0, .int .u8 0, .int .u8 0, .int .u8 0, .int .u8 0, .int .u8 0, .int .u8 0, .int .u8 0, .int .u8 0, .int .u8 0, .int .u8 0, .int .u8 0, .int .u8 0, .int .i64 0, .int .i64 0, .int .i64 0, .int .i64 0] 27)) (by as_aux_lemma => kernel_rfl) ?_
                      refine hKq.out _ _ ((hHeld.alloc hHeld.size _)) (fun hHeld2 => ?_)
                      clear hKq Kq hHeld
                      have hHeld := hHeld2
                      clear hHeld2
                      simp only [Act.put, List.setIfInBounds_toArray, List.set_cons_zero, List.set_cons_succ]
                      refine wpAnyH_ready (rs := [2]) (by kernel_rfl) (by simp) ?_
                      refine AllReadyH.cons (i := 2) (rs := []) rfl ?_ AllReadyH.nil
                      intro Kq hKq
                      simp only [List.getElem_toArray, List.getElem_cons_succ, List.getElem_cons_zero]
                      rw [if_pos (by rfl)]
                      have HSZ0 : w21.heap.size ≤ ((wo.alloc (.cells #[.int .u8 0, .int .u8 0, .int .u8 0, .int .u8 0, .int .u8 0, .int .u8 0, .int .u8 0, .int .u8 0, .int .u8 0, .int .u8 0, .int .u8 0, .int .u8 0, .int .u8 0, .int .i64 0, .int .i64 0, .int .i64 0, .int .i64 0] 27))).heap.size := hHeld.size
                      refine wp_call_fn 20 #[.agg a.cells, mv, .int .i64 0] (_) (by as_aux_lemma => kernel_rfl) (H4.out _ _ (MsgIn.below HMI.out ((Below.refl _ _).alloc (Nat.le_refl _) _))) ?_
                      rintro e w1 ⟨v2, rfl, hO, hb⟩
                      refine ⟨.tuple #[.agg KZ.cells, v2, .int .i64 21], rfl, ?_⟩
                      have HB1 := Lib.hid (hHeld.trans (hb.mono HSZ0))
                      have HBZ : w21.heap.size ≤ w1.heap.size := HB1.out.size
                      refine hKq.out _ _ (HB1.out) (fun hHeld2 => ?_)
                      clear hKq Kq hHeld
                      have hHeld := hHeld2
                      clear hHeld2
                      simp only [Act.put, List.setIfInBounds_toArray, List.set_cons_zero, List.set_cons_succ]
                      have HRT := Lib.hid (row_below hb (heap_alloc_new _ _))
                      have HTL : wo.heap.size < ((wo.alloc (.cells #[.int .u8 0, .int .u8 0, .int .u8 0, .int .u8 0, .int .u8 0, .int .u8 0, .int .u8 0, .int .u8 0, .int .u8 0, .int .u8 0, .int .u8 0, .int .u8 0, .int .u8 0, .int .i64 0, .int .i64 0, .int .i64 0, .int .i64 0] 27))).heap.size := lt_alloc _ _
                      refine wpAnyH_take (i := 3) (v := .tuple #[.agg KZ.cells, v2, .int .i64 21]) rfl (by kernel_rfl) (by kernel_rfl) (by kernel_rfl) (fun _ _ _ h => h) (Or.inl ⟨by rfl, by intro w hSw; clear hHeld hSw; go_simp; (try rfl)⟩) (by assumption) ?_
                      simp only [Act.put, List.setIfInBounds_toArray, List.set_cons_zero, List.set_cons_succ, List.getElem_toArray, List.getElem_cons_succ, List.getElem_cons_zero]
                      refine wpAnyH_take (i := 4) (v := .agg KZ.cells) rfl (by kernel_rfl) (by kernel_rfl) (by kernel_rfl) (fun _ _ _ h => h) (Or.inl ⟨by rfl, by intro w hSw; clear hHeld hSw; go_simp; (try rfl)⟩) (by assumption) ?_
                      simp only [Act.put, List.setIfInBounds_toArray, List.set_cons_zero, List.set_cons_succ, List.getElem_toArray, List.getElem_cons_succ, List.getElem_cons_zero]
                      refine wpAnyH_take (i := 5) (v := v2) rfl (by kernel_rfl) (by kernel_rfl) (by kernel_rfl) (fun _ _ _ h => h) (Or.inl ⟨by rfl, by intro w hSw; clear hHeld hSw; go_simp; (try rfl)⟩) (by assumption) ?_
                      simp only [Act.put, List.setIfInBounds_toArray, List.set_cons_zero, List.set_cons_succ, List.getElem_toArray, List.getElem_cons_succ, List.getElem_cons_zero]
                      refine wpAnyH_take (i := 6) (v := .int .i64 21) rfl (by kernel_rfl) (by kernel_rfl) (by kernel_rfl) (fun _ _ _ h => h) (Or.inl ⟨by rfl, by intro w hSw; clear hHeld hSw; go_simp; (try rfl)⟩) (by assumption) ?_
                      simp only [Act.put, List.setIfInBounds_toArray, List.set_cons_zero, List.set_cons_succ, List.getElem_toArray, List.getElem_cons_succ, List.getElem_cons_zero]
                      have HBA := Lib.hid (show Below w21.heap.size w21 (w1.setRow (wo.heap.size) KZ.cells) from below_setRow' HB1.out HTA _)
                      refine wpAnyH_ready (rs := [8]) (by kernel_rfl) (by simp) ?_
                      refine AllReadyH.cons (i := 8) (rs := []) rfl ?_ AllReadyH.nil
                      intro Kq hKq
                      simp only [List.getElem_toArray, List.getElem_cons_succ, List.getElem_cons_zero]
                      rw [if_pos (by rfl)]
                      refine wp_store_row 27 (.tmp 30) (.tmp 121) (by rfl) (wo.heap.size) KZ.cells (by as_aux_lemma => kernel_rfl) (by as_aux_lemma => kernel_rfl) 27 #[.int .u8 0, .int .u8 0, .int .u8 0, .int .u8 0, .int .u8 0, .int .u8 0, .int .u8 0, .int .u8 0, .int .u8 0, .int .u8 0, .int .u8 0, .int .u8 0, .int .u8 0, .int .i64 0, .int .i64 0, .int .i64 0, .int .i64 0] HRT.out HIKZ.out (by as_aux_lemma => kernel_rfl) (one_cells _) ?_
                      refine hKq.out _ _ (HBA.out) (fun hHeld2 => ?_)
                      clear hKq Kq hHeld
                      have hHeld := hHeld2
                      clear hHeld2
                      simp only [Act.put, List.setIfInBounds_toArray, List.set_cons_zero, List.set_cons_succ]
                      refine wpAnyH_take (i := 9) (v := v2) rfl (by kernel_rfl) (by kernel_rfl) (by kernel_rfl) (fun _ _ _ h => h) (Or.inl ⟨by rfl, by intro w hSw; clear hHeld hSw; go_simp; (try rfl)⟩) (by assumption) ?_
                      simp only [Act.put, List.setIfInBounds_toArray, List.set_cons_zero, List.set_cons_succ, List.getElem_toArray, List.getElem_cons_succ, List.getElem_cons_zero]
                      refine wpAnyH_take (i := 10) (v := .int .i64 21) rfl (by kernel_rfl) (by kernel_rfl) (by kernel_rfl) (fun _ _ _ h => h) (Or.inl ⟨by rfl, by intro w hSw; clear hHeld hSw; go_simp; (try rfl)⟩) (by assumption) ?_
                      simp only [Act.put, List.setIfInBounds_toArray, List.set_cons_zero, List.set_cons_succ, List.getElem_toArray, List.getElem_cons_succ, List.getElem_cons_zero]
                      clear hHeld
                      refine wpAnyH_done (by kernel_rfl) ?_ _
                      have HT : w21.heap.size ≤ wo.heap.size ∧ (w1.setRow (wo.heap.size) KZ.cells).heap[wo.heap.size]? = some (.cells KZ.cells 27) ∧ Below w21.heap.size w21 (w1.setRow (wo.heap.size) KZ.cells) ∧ ListOk (fun b => w21.heap.size ≤ b) (w1.setRow (wo.heap.size) KZ.cells) v2 ([] : List (List Int)) := ⟨HTA, setRow_heap _ _ _ _ _ _ HRT.out, HBA.out, ((hO.setRow (wo.heap.size) HTL KZ.cells).listOk no_ok (Nat.le_trans (show 0 ≤ 2 by decide) (by unfold maxLen; decide))).mono (fun b q => Nat.le_trans HSZ0 q)⟩
                      go_wp2_with fail
                      go_meet
                      case rel => exact ⟨_, _, rfl, rfl, rfl, HT⟩
                  · intro Kq hKq
                    simp only [List.getElem_toArray, List.getElem_cons_succ, List.getElem_cons_zero]
                    rw [if_pos (by rfl)]
                    have HTA : w21.heap.size ≤ w21.heap.size := hHeld.size
                    refine wp_op_value (.pointer (some ⟨w21.heap.size, 0, none⟩)) (w21.drew.alloc (.cells #[.int .u8 0, .int .u8 0, .int .u8 0, .int .u8 0, .int .u8 0, .int .u8 0, .int .u8 0, .int .u8 0, .int .u8 0, .int .u8 0, .int .u8 0, .int .u8 0, .int .u8 0, .int .i64 0, .int .i64 0, .int .i64 0, .int .i64 0] 27)) (by as_aux_lemma => kernel_rfl) ?_
                    refine hKq.out _ _ ((hHeld.alloc hHeld.size _)) (fun hHeld2 => ?_)
                    clear hKq Kq hHeld
                    have hHeld := hHeld2
                    clear hHeld2
                    simp only [Act.put, List.setIfInBounds_toArray, List.set_cons_zero, List.set_cons_succ]
                    refine wpAnyH_ready (rs := [1]) (by kernel_rfl) (by simp) ?_
                    refine AllReadyH.cons (i := 1) (rs := []) rfl ?_ AllReadyH.nil
                    intro Kq hKq
                    simp only [List.getElem_toArray, List.getElem_cons_succ, List.getElem_cons_zero]
                    rw [if_pos (by rfl)]
                    refine wp_call_fn 33 #[.int .i64 1, .int .i64 2] (_) (by as_aux_lemma => kernel_rfl) (confirm_any 1 2 (by decide) (by decide) (by decide) (by decide) _) ?_
                    rintro e wo ⟨mv, rfl, hM, hbo⟩
                    refine ⟨mv, rfl, ?_⟩
                    refine hKq.out _ _ ((hHeld.trans (hbo.mono hHeld.size))) (fun hHeld2 => ?_)
                    clear hKq Kq hHeld
                    have hHeld := hHeld2
                    clear hHeld2
                    simp only [Act.put, List.setIfInBounds_toArray, List.set_cons_zero, List.set_cons_succ]
                    have HRO := Lib.hid (row_below hbo (heap_alloc_new _ _))
                    have HMI := Lib.hid (hM.read (msgOf_ok 2 1 2 (by decide)).2)
                    refine wpAnyH_ready (rs := [2]) (by kernel_rfl) (by simp) ?_
                    refine AllReadyH.cons (i := 2) (rs := []) rfl ?_ AllReadyH.nil
                    intro Kq hKq
                    simp only [List.getElem_toArray, List.getElem_cons_succ, List.getElem_cons_zero]
                    rw [if_pos (by rfl)]
                    have HSZ0 : w21.heap.size ≤ (wo).heap.size := hHeld.size
                    refine wp_call_fn 20 #[.agg a.cells, mv, .int .i64 0] (_) (by as_aux_lemma => kernel_rfl) (H4.out _ _ HMI.out) ?_
                    rintro e w1 ⟨v2, rfl, hO, hb⟩
                    refine ⟨.tuple #[.agg KZ.cells, v2, .int .i64 21], rfl, ?_⟩
                    have HB1 := Lib.hid (hHeld.trans (hb.mono HSZ0))
                    have HBZ : w21.heap.size ≤ w1.heap.size := HB1.out.size
                    refine hKq.out _ _ (HB1.out) (fun hHeld2 => ?_)
                    clear hKq Kq hHeld
                    have hHeld := hHeld2
                    clear hHeld2
                    simp only [Act.put, List.setIfInBounds_toArray, List.set_cons_zero, List.set_cons_succ]
                    have HRT := Lib.hid (row_below hb HRO.out)
                    have HTL : w21.heap.size < (wo).heap.size := Nat.lt_of_lt_of_le (lt_alloc _ _) hbo.size
                    refine wpAnyH_take (i := 3) (v := .tuple #[.agg KZ.cells, v2, .int .i64 21]) rfl (by kernel_rfl) (by kernel_rfl) (by kernel_rfl) (fun _ _ _ h => h) (Or.inl ⟨by rfl, by intro w hSw; clear hHeld hSw; go_simp; (try rfl)⟩) (by assumption) ?_
                    simp only [Act.put, List.setIfInBounds_toArray, List.set_cons_zero, List.set_cons_succ, List.getElem_toArray, List.getElem_cons_succ, List.getElem_cons_zero]
                    refine wpAnyH_take (i := 4) (v := .agg KZ.cells) rfl (by kernel_rfl) (by kernel_rfl) (by kernel_rfl) (fun _ _ _ h => h) (Or.inl ⟨by rfl, by intro w hSw; clear hHeld hSw; go_simp; (try rfl)⟩) (by assumption) ?_
                    simp only [Act.put, List.setIfInBounds_toArray, List.set_cons_zero, List.set_cons_succ, List.getElem_toArray, List.getElem_cons_succ, List.getElem_cons_zero]
                    refine wpAnyH_take (i := 5) (v := v2) rfl (by kernel_rfl) (by kernel_rfl) (by kernel_rfl) (fun _ _ _ h => h) (Or.inl ⟨by rfl, by intro w hSw; clear hHeld hSw; go_simp; (try rfl)⟩) (by assumption) ?_
                    simp only [Act.put, List.setIfInBounds_toArray, List.set_cons_zero, List.set_cons_succ, List.getElem_toArray, List.getElem_cons_succ, List.getElem_cons_zero]
                    refine wpAnyH_take (i := 6) (v := .int .i64 21) rfl (by kernel_rfl) (by kernel_rfl) (by kernel_rfl) (fun _ _ _ h => h) (Or.inl ⟨by rfl, by intro w hSw; clear hHeld hSw; go_simp; (try rfl)⟩) (by assumption) ?_
                    simp only [Act.put, List.setIfInBounds_toArray, List.set_cons_zero, List.set_cons_succ, List.getElem_toArray, List.getElem_cons_succ, List.getElem_cons_zero]
                    have HBA := Lib.hid (show Below w21.heap.size w21 (w1.setRow (w21.heap.size) KZ.cells) from below_setRow' HB1.out HTA _)
                    refine wpAnyH_ready (rs := [8]) (by kernel_rfl) (by simp) ?_
                    refine AllReadyH.cons (i := 8) (rs := []) rfl ?_ AllReadyH.nil
                    intro Kq hKq
                    simp only [List.getElem_toArray, List.getElem_cons_succ, List.getElem_cons_zero]
                    rw [if_pos (by rfl)]
                    refine wp_store_row 27 (.tmp 30) (.tmp 121) (by rfl) (w21.heap.size) KZ.cells (by as_aux_lemma => kernel_rfl) (by as_aux_lemma => kernel_rfl) 27 #[.int .u8 0, .int .u8 0, .int .u8 0, .int .u8 0, .int .u8 0, .int .u8 0, .int .u8 0, .int .u8 0, .int .u8 0, .int .u8 0, .int .u8 0, .int .u8 0, .int .u8 0, .int .i64 0, .int .i64 0, .int .i64 0, .int .i64 0] HRT.out HIKZ.out (by as_aux_lemma => kernel_rfl) (one_cells _) ?_
                    refine hKq.out _ _ (HBA.out) (fun hHeld2 => ?_)
                    clear hKq Kq hHeld
                    have hHeld := hHeld2
                    clear hHeld2
                    simp only [Act.put, List.setIfInBounds_toArray, List.set_cons_zero, List.set_cons_succ]
                    refine wpAnyH_take (i := 9) (v := v2) rfl (by kernel_rfl) (by kernel_rfl) (by kernel_rfl) (fun _ _ _ h => h) (Or.inl ⟨by rfl, by intro w hSw; clear hHeld hSw; go_simp; (try rfl)⟩) (by assumption) ?_
                    simp only [Act.put, List.setIfInBounds_toArray, List.set_cons_zero, List.set_cons_succ, List.getElem_toArray, List.getElem_cons_succ, List.getElem_cons_zero]
                    refine wpAnyH_take (i := 10) (v := .int .i64 21) rfl (by kernel_rfl) (by kernel_rfl) (by kernel_rfl) (fun _ _ _ h => h) (Or.inl ⟨by rfl, by intro w hSw; clear hHeld hSw; go_simp; (try rfl)⟩) (by assumption) ?_
                    simp only [Act.put, List.setIfInBounds_toArray, List.set_cons_zero, List.set_cons_succ, List.getElem_toArray, List.getElem_cons_succ, List.getElem_cons_zero]
                    clear hHeld
                    refine wpAnyH_done (by kernel_rfl) ?_ _
                    have HT : w21.heap.size ≤ w21.heap.size ∧ (w1.setRow (w21.heap.size) KZ.cells).heap[w21.heap.size]? = some (.cells KZ.cells 27) ∧ Below w21.heap.size w21 (w1.setRow (w21.heap.size) KZ.cells) ∧ ListOk (fun b => w21.heap.size ≤ b) (w1.setRow (w21.heap.size) KZ.cells) v2 ([] : List (List Int)) := ⟨HTA, setRow_heap _ _ _ _ _ _ HRT.out, HBA.out, ((hO.setRow (w21.heap.size) HTL KZ.cells).listOk no_ok (Nat.le_trans (show 0 ≤ 2 by decide) (by unfold maxLen; decide))).mono (fun b q => Nat.le_trans HSZ0 q)⟩
                    go_wp2_with fail
                    go_meet
                    case rel => exact ⟨_, _, rfl, rfl, rfl, HT⟩
              case rest =>
                as_aux_lemma =>
                  obtain ⟨T, v2, rfl, rfl, rfl, hT, rT, hb, lx⟩ := hcut
                  clear lx rT
                  obtain ⟨w22, hwe⟩ : ∃ q, q = wc := ⟨_, rfl⟩
                  subst hwe
                  have RAw22 := Lib.hid (show w22.heap[w19.heap.size]? = some (.cells a.cells 27) from row_below hb RAw21.out)
                  have lRAw22 : w19.heap.size < w22.heap.size := row_lt RAw22.out
                  have HBw22 := Lib.hid (below_step HBw21.out hb)
                  clear hb
                  go_wp2_with ((with_reducible refine wpList_load_row rfl 27 (.tmp 24) rfl (w19.heap.size) rfl 27 (a.cells) (0, 0) _ RAw22.out Try.underlying27 rfl HIa.out ?_))
                  refine (C2.out _).mono ?_
                  rintro e w23 ⟨v23, rfl, hO, hb⟩
                  have RAw23 := Lib.hid (show w23.heap[w19.heap.size]? = some (.cells a.cells 27) from row_below hb RAw22.out)
                  have lRAw23 : w19.heap.size < w23.heap.size := row_lt RAw23.out
                  have HBw23 := Lib.hid (below_step HBw22.out hb)
                  clear hb
                  clear hO
                  have nRA_RB : w19.heap.size < w23.heap.size := lRAw23
                  have gRB : w.heap.size ≤ w23.heap.size := by have hh := Below.size HBw23.out; exact hh
                  go_wp2_with (first
                    | ((with_reducible refine wpList_store_rowTo rfl 27 (.tmp 33) (.tmp 127) rfl rfl (w23.heap.size) (b.cells) ?_ ?_ 27 #[.int .u8 0, .int .u8 0, .int .u8 0, .int .u8 0, .int .u8 0, .int .u8 0, .int .u8 0, .int .u8 0, .int .u8 0, .int .u8 0, .int .u8 0, .int .u8 0, .int .u8 0, .int .i64 0, .int .i64 0, .int .i64 0, .int .i64 0] (heap_alloc_at rfl) HIb.out rfl (one_cells _) ?_); (as_aux_lemma => kernel_rfl); (as_aux_lemma => kernel_rfl); rw [setRow_allocAt rfl])
                    | (with_reducible refine wpList_load_row rfl 27 (.tmp 33) rfl (w23.heap.size) rfl 27 (b.cells) (0, 0) _ (heap_alloc_at rfl) Try.underlying27 rfl HIb.out ?_))
                  refine (C3.out _).mono ?_
                  rintro e w24 ⟨v24, rfl, hO, hb⟩
                  have RBw24 := Lib.hid (show w24.heap[w23.heap.size]? = some (.cells b.cells 27) from row_below hb (heap_alloc_at rfl))
                  have lRBw24 : w23.heap.size < w24.heap.size := row_lt RBw24.out
                  have HBw24 := Lib.hid (below_step (below_more HBw23.out (.cells b.cells 27)) hb)
                  clear hb
                  clear hO
                  go_wp2_with (first
                    | ((with_reducible refine wpList_store_rowTo rfl 27 (.tmp 36) (.tmp 133) rfl rfl (w24.heap.size) (KZ.cells) ?_ ?_ 27 #[.int .u8 0, .int .u8 0, .int .u8 0, .int .u8 0, .int .u8 0, .int .u8 0, .int .u8 0, .int .u8 0, .int .u8 0, .int .u8 0, .int .u8 0, .int .u8 0, .int .u8 0, .int .i64 0, .int .i64 0, .int .i64 0, .int .i64 0] (heap_alloc_at rfl) HIKZ.out rfl (one_cells _) ?_); (as_aux_lemma => kernel_rfl); (as_aux_lemma => kernel_rfl); rw [setRow_allocAt rfl])
                    | (with_reducible refine wpList_load_row rfl 27 (.tmp 33) rfl (w23.heap.size) rfl 27 (b.cells) (0, 0) _ (row_alloc RBw24.out) Try.underlying27 rfl HIb.out ?_))
                  refine (T1.out _).mono ?_
                  rintro e w25 ⟨v25, rfl, hO, hb⟩
                  have RBw25 := Lib.hid (show w25.heap[w23.heap.size]? = some (.cells b.cells 27) from row_below hb (row_alloc RBw24.out))
                  have lRBw25 : w23.heap.size < w25.heap.size := row_lt RBw25.out
                  have HBw25 := Lib.hid (below_step (below_more HBw24.out (.cells KZ.cells 27)) hb)
                  clear hb
                  have mLY_RB : w23.heap.size < w24.heap.size + 1 := Nat.lt_succ_of_lt (lRBw24)
                  have hqLY : ListOk (fun b => w24.heap.size + 1 ≤ b) w25 v25 [] := (hO.listOk no_ok (Nat.le_trans (show _ ≤ 2 by first | (show 1 ≤ 2; decide) | (show 0 ≤ 2; decide) | (show 2 ≤ 2; decide)) (by unfold maxLen; decide))).mono (fun b q => Nat.le_trans (by first | exact Nat.le_refl _ | (simp only [World.size_alloc]; exact Nat.le_refl _)) q)
                  obtain ⟨aoLY, cLY, rfl, hq1LY, hq2LY, hq3LY⟩ := hqLY
                  have LYw25 := Lib.hid (show ListOk (fun b => w24.heap.size + 1 ≤ b) w25 (.slice aoLY 0 cLY) [] from ⟨aoLY, cLY, rfl, hq1LY, hq2LY, hq3LY⟩)
                  clear hO hq1LY hq2LY hq3LY
                  have nRB_RC : w23.heap.size < w25.heap.size := lRBw25
                  have gRC : w.heap.size ≤ w25.heap.size := by have hh := Below.size HBw25.out; exact hh
                  go_wp2_with (first
                    | ((with_reducible refine wpList_store_rowTo rfl 27 (.tmp 39) (.tmp 139) rfl rfl (w25.heap.size) (c.cells) ?_ ?_ 27 #[.int .u8 0, .int .u8 0, .int .u8 0, .int .u8 0, .int .u8 0, .int .u8 0, .int .u8 0, .int .u8 0, .int .u8 0, .int .u8 0, .int .u8 0, .int .u8 0, .int .u8 0, .int .i64 0, .int .i64 0, .int .i64 0, .int .i64 0] (heap_alloc_at rfl) HIc.out rfl (one_cells _) ?_); (as_aux_lemma => kernel_rfl); (as_aux_lemma => kernel_rfl); rw [setRow_allocAt rfl])
                    | (with_reducible refine wpList_load_row rfl 27 (.tmp 33) rfl (w23.heap.size) rfl 27 (b.cells) (0, 0) _ (row_alloc RBw25.out) Try.underlying27 rfl HIb.out ?_))
                  refine (T2.out _).mono ?_
                  rintro e w26 ⟨v26, rfl, hO, hb⟩
                  have RBw26 := Lib.hid (show w26.heap[w23.heap.size]? = some (.cells b.cells 27) from row_below hb (row_alloc RBw25.out))
                  have lRBw26 : w23.heap.size < w26.heap.size := row_lt RBw26.out
                  have RCw26 := Lib.hid (show w26.heap[w25.heap.size]? = some (.cells c.cells 27) from row_below hb (heap_alloc_at rfl))
                  have lRCw26 : w25.heap.size < w26.heap.size := row_lt RCw26.out
                  have HBw26 := Lib.hid (below_step (below_more HBw25.out (.cells c.cells 27)) hb)
                  clear hb
                  have mLZ_RB : w23.heap.size < w25.heap.size + 1 := Nat.lt_succ_of_lt (lRBw25)
                  have mLZ_RC : w25.heap.size < w25.heap.size + 1 := Nat.lt_succ_self _
                  have hqLZ : ListOk (fun b => w25.heap.size + 1 ≤ b) w26 v26 [] := (hO.listOk no_ok (Nat.le_trans (show _ ≤ 2 by first | (show 1 ≤ 2; decide) | (show 0 ≤ 2; decide) | (show 2 ≤ 2; decide)) (by unfold maxLen; decide))).mono (fun b q => Nat.le_trans (by first | exact Nat.le_refl _ | (simp only [World.size_alloc]; exact Nat.le_refl _)) q)
                  obtain ⟨aoLZ, cLZ, rfl, hq1LZ, hq2LZ, hq3LZ⟩ := hqLZ
                  have LZw26 := Lib.hid (show ListOk (fun b => w25.heap.size + 1 ≤ b) w26 (.slice aoLZ 0 cLZ) [] from ⟨aoLZ, cLZ, rfl, hq1LZ, hq2LZ, hq3LZ⟩)
                  clear hO hq1LZ hq2LZ hq3LZ
                  have nRB_RD : w23.heap.size < w26.heap.size := lRBw26
                  have nRC_RD : w25.heap.size < w26.heap.size := lRCw26
                  have gRD : w.heap.size ≤ w26.heap.size := by have hh := Below.size HBw26.out; exact hh
                  go_upto_region 17 with ((with_reducible refine wpList_store_rowTo rfl 27 (.tmp 42) (.tmp 145) rfl rfl (w26.heap.size) (b.cells) ?_ ?_ 27 #[.int .u8 0, .int .u8 0, .int .u8 0, .int .u8 0, .int .u8 0, .int .u8 0, .int .u8 0, .int .u8 0, .int .u8 0, .int .u8 0, .int .u8 0, .int .u8 0, .int .u8 0, .int .i64 0, .int .i64 0, .int .i64 0, .int .i64 0] (heap_alloc_at rfl) HIb.out rfl (one_cells _) ?_); (as_aux_lemma => kernel_rfl); (as_aux_lemma => kernel_rfl); rw [setRow_allocAt rfl])
                  obtain ⟨w27, hwq⟩ : ∃ wq, wq = (w26.alloc (.cells b.cells 27)) := ⟨_, rfl⟩
                  rw [← hwq]
                  have hb : Below ((w26.alloc (.cells b.cells 27))).heap.size (w26.alloc (.cells b.cells 27)) w27 := by rw [hwq]; exact Below.refl _ _
                  clear hwq
                  have RBw27 := Lib.hid (show w27.heap[w23.heap.size]? = some (.cells b.cells 27) from row_below hb (row_alloc RBw26.out))
                  have lRBw27 : w23.heap.size < w27.heap.size := row_lt RBw27.out
                  have RCw27 := Lib.hid (show w27.heap[w25.heap.size]? = some (.cells c.cells 27) from row_below hb (row_alloc RCw26.out))
                  have lRCw27 : w25.heap.size < w27.heap.size := row_lt RCw27.out
                  have RDw27 := Lib.hid (show w27.heap[w26.heap.size]? = some (.cells b.cells 27) from row_below hb (heap_alloc_at rfl))
                  have lRDw27 : w26.heap.size < w27.heap.size := row_lt RDw27.out
                  have HBw27 := Lib.hid (below_step (below_more HBw26.out (.cells b.cells 27)) hb)
                  clear hb
                  have zb2 : w27.cell? ⟨w23.heap.size, 12, none⟩ = some (.int .u8 5) := by rw [cell_of_row _ _ _ _ _ _ RBw27.out, lk_st, B0.out]
                  have zc2 : w27.cell? ⟨w25.heap.size, 12, none⟩ = some (.int .u8 0) := by rw [cell_of_row _ _ _ _ _ _ RCw27.out, lk_st, C0.out]
                  have zc3 : w27.cell? ⟨w25.heap.size, 13, none⟩ = some (.int .i64 1) := by rw [cell_of_row _ _ _ _ _ _ RCw27.out, lk_id, CI.out]
                  go_wp2_with (first
                    | ((with_reducible refine wpList_load_subG ?_ 27 (.tmp 42) rfl (w26.heap.size) 0 rfl b.cells _ (range_row RDw27.out) Try.underlying27 rfl HIb.out ?_); (as_aux_lemma => kernel_rfl))
                    | ((with_reducible refine wpList_load_subG ?_ 27 (.tmp 33) rfl (w23.heap.size) 0 rfl b.cells _ (range_row RBw27.out) Try.underlying27 rfl HIb.out ?_); (as_aux_lemma => kernel_rfl)))
                  refine (alive_any _).mono ?_
                  rintro e w28 ⟨rfl, hb⟩
                  have RBw28 := Lib.hid (show w28.heap[w23.heap.size]? = some (.cells b.cells 27) from row_below hb RBw27.out)
                  have lRBw28 : w23.heap.size < w28.heap.size := row_lt RBw28.out
                  have RCw28 := Lib.hid (show w28.heap[w25.heap.size]? = some (.cells c.cells 27) from row_below hb RCw27.out)
                  have lRCw28 : w25.heap.size < w28.heap.size := row_lt RCw28.out
                  have RDw28 := Lib.hid (show w28.heap[w26.heap.size]? = some (.cells b.cells 27) from row_below hb RDw27.out)
                  have lRDw28 : w26.heap.size < w28.heap.size := row_lt RDw28.out
                  have HBw28 := Lib.hid (below_step HBw27.out hb)
                  clear hb
                  go_wp2_with fail
                  refine (CZ.out _).mono ?_
                  rintro e wz ⟨rfl, hb⟩
                  have HBZ := Lib.hid (below_step HBw28.out hb)
                  have hzc : zeroLk.chk = 8 := by decide
                  simp only [hzc]
                  clear hb
                  go_wp2
                  go_ret
                  exact ⟨rfl, HBZ.out⟩
end Go.Proofs.Ytmighkgjbohieaa.peerNames
