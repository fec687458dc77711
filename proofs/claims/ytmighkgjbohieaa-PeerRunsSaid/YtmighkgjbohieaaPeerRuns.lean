/-
  The walk of PeerRuns: along a script of events both programs return the same.
-/
import Derived.Test.YtmighkgjbohieaaPeerRunsS
import Derived.Deep.LoopGhost
import Derived.Deep.DeepCutAuto
import Derived.Deep.CutBlock
set_option linter.unusedVariables false
set_option linter.unusedSimpArgs false
namespace Go.Proofs.Ytmighkgjbohieaa.peerRuns
open Go.ChangeShapes Go.WideShapes Go.ChangeAt Go.RowKit Go.Great

def BoolR (w : World) (e : Ending) (w' : World) : Prop := e = .returned (.bool true) ∧ Below w.heap.size w w'
set_option maxRecDepth 100000 in
set_option maxHeartbeats 8000000 in
theorem out0 (id other : Int) (hi : -9223372036854775808 ≤ id ∧ id ≤ 9223372036854775807) (ho : -9223372036854775808 ≤ other ∧ other ≤ 9223372036854775807) (h0 : inB id = false) (v : Value) (n : Nat) (E : Nat → Ev) (w : World) (hE : EvIn w v n E) : Calls Try.prog 7 #[.int .i64 id, .int .i64 other, v] w (BoolR w) := by
  have HEV := Lib.hid hE
  have HA0 := Lib.hid (wf_k0 hi)
  have HB0 := Lib.hid (wf_k1 ho)
  have HC0 := Lib.hid (fun W => new0_any id W)
  have HC1 := Lib.hid (fun W => new1_any other W)
  have he0 : idE id = 2 := by simp only [idE, h0]; rfl
  rw [he0] at HC0
  obtain ⟨e1, he1⟩ : ∃ e, idE other = e := ⟨_, rfl⟩
  rw [he1] at HC1
  generalize k0 id = A0 at *
  generalize k1 other = B0 at *
  have HIA := Lib.hid (link_info2 A0)
  have HIB := Lib.hid (link_info2 B0)
  have HIP := Lib.hid (pair_info A0 B0)
  go_enter Try.func7, Try.ntmps7
  go_wp2_with (fail)
  refine (one_any _).mono ?_
  rintro e w1 ⟨rfl, hb⟩
  have HBw1 := Lib.hid (below_step (Below.refl w.heap.size w) hb)
  clear hb
  go_wp2_with (fail)
  refine (two_any _).mono ?_
  rintro e w2 ⟨rfl, hb⟩
  have HBw2 := Lib.hid (below_step HBw1.out hb)
  clear hb
  go_wp2_with (fail)
  refine (HC0.out _).mono ?_
  rintro e w3 ⟨rfl, hb⟩
  have HBw3 := Lib.hid (below_step HBw2.out hb)
  clear hb
  have gA : w.heap.size ≤ w3.heap.size := by have hh := Below.size HBw3.out; exact hh
  go_wp2_with (((with_reducible refine wpList_store_rowTo rfl 27 (.tmp 7) (.tmp 30) rfl rfl (w3.heap.size) (A0.cells) ?_ ?_ 27 #[.int .u8 0, .int .u8 0, .int .u8 0, .int .u8 0, .int .u8 0, .int .u8 0, .int .u8 0, .int .u8 0, .int .u8 0, .int .u8 0, .int .u8 0, .int .u8 0, .int .u8 0, .int .i64 0, .int .i64 0, .int .i64 0, .int .i64 0] (heap_alloc_at rfl) HIA.out rfl (one_cells _) ?_); (as_aux_lemma => kernel_rfl); (as_aux_lemma => kernel_rfl); rw [setRow_allocAt rfl]))
  refine (two_any _).mono ?_
  rintro e w4 ⟨rfl, hb⟩
  have Aw4 := Lib.hid (show w4.heap[w3.heap.size]? = some (.cells A0.cells 27) from row_below hb (heap_alloc_at rfl))
  have lAw4 : w3.heap.size < w4.heap.size := row_lt Aw4.out
  have HBw4 := Lib.hid (below_step (below_more HBw3.out (.cells A0.cells 27)) hb)
  clear hb
  go_wp2_with (fail)
  refine (one_any _).mono ?_
  rintro e w5 ⟨rfl, hb⟩
  have Aw5 := Lib.hid (show w5.heap[w3.heap.size]? = some (.cells A0.cells 27) from row_below hb Aw4.out)
  have lAw5 : w3.heap.size < w5.heap.size := row_lt Aw5.out
  have HBw5 := Lib.hid (below_step HBw4.out hb)
  clear hb
  go_wp2_with (fail)
  refine (HC1.out _).mono ?_
  rintro e w6 ⟨rfl, hb⟩
  have Aw6 := Lib.hid (show w6.heap[w3.heap.size]? = some (.cells A0.cells 27) from row_below hb Aw5.out)
  have lAw6 : w3.heap.size < w6.heap.size := row_lt Aw6.out
  have HBw6 := Lib.hid (below_step HBw5.out hb)
  clear hb
  have nA_B : w3.heap.size < w6.heap.size := lAw6
  have gB : w.heap.size ≤ w6.heap.size := by have hh := Below.size HBw6.out; exact hh
  go_wp2_with ((with_reducible refine wpList_store_rowTo rfl 27 (.tmp 9) (.tmp 37) rfl rfl (w6.heap.size) (B0.cells) ?_ ?_ 27 #[.int .u8 0, .int .u8 0, .int .u8 0, .int .u8 0, .int .u8 0, .int .u8 0, .int .u8 0, .int .u8 0, .int .u8 0, .int .u8 0, .int .u8 0, .int .u8 0, .int .u8 0, .int .i64 0, .int .i64 0, .int .i64 0, .int .i64 0] (heap_alloc_at rfl) HIB.out rfl (one_cells _) ?_); (as_aux_lemma => kernel_rfl); (as_aux_lemma => kernel_rfl); rw [setRow_allocAt rfl])
  have HBG := Lib.hid (below_more HBw6.out (.cells B0.cells 27))
  have RA := Lib.hid (show (w6.alloc (.cells B0.cells 27)).heap[w3.heap.size]? = some (.cells A0.cells 27) from (row_alloc Aw6.out))
  have RB := Lib.hid (show (w6.alloc (.cells B0.cells 27)).heap[w6.heap.size]? = some (.cells B0.cells 27) from (heap_alloc_at rfl))
  refine (great_any v n E _ (HEV.out.below HBG.out)).mono ?_
  rintro e wq ⟨b, rfl, rfl, hgood⟩
  have HGD := Lib.hid hgood
  clear hgood
  cases b
  all_goals
    go_wp2
    go_ret
    exact ⟨rfl, HBG.out⟩
set_option maxRecDepth 100000 in
set_option maxHeartbeats 8000000 in
theorem out1 (id other : Int) (hi : -9223372036854775808 ≤ id ∧ id ≤ 9223372036854775807) (ho : -9223372036854775808 ≤ other ∧ other ≤ 9223372036854775807) (h0 : inB id = true) (h1 : inB other = false) (v : Value) (n : Nat) (E : Nat → Ev) (w : World) (hE : EvIn w v n E) : Calls Try.prog 7 #[.int .i64 id, .int .i64 other, v] w (BoolR w) := by
  have HEV := Lib.hid hE
  have HA0 := Lib.hid (wf_k0 hi)
  have HB0 := Lib.hid (wf_k1 ho)
  have HC0 := Lib.hid (fun W => new0_any id W)
  have HC1 := Lib.hid (fun W => new1_any other W)
  have he0 : idE id = 0 := by simp only [idE, h0]; rfl
  rw [he0] at HC0
  have he1 : idE other = 2 := by simp only [idE, h1]; rfl
  rw [he1] at HC1
  generalize k0 id = A0 at *
  generalize k1 other = B0 at *
  have HIA := Lib.hid (link_info2 A0)
  have HIB := Lib.hid (link_info2 B0)
  have HIP := Lib.hid (pair_info A0 B0)
  go_enter Try.func7, Try.ntmps7
  go_wp2_with (fail)
  refine (one_any _).mono ?_
  rintro e w1 ⟨rfl, hb⟩
  have HBw1 := Lib.hid (below_step (Below.refl w.heap.size w) hb)
  clear hb
  go_wp2_with (fail)
  refine (two_any _).mono ?_
  rintro e w2 ⟨rfl, hb⟩
  have HBw2 := Lib.hid (below_step HBw1.out hb)
  clear hb
  go_wp2_with (fail)
  refine (HC0.out _).mono ?_
  rintro e w3 ⟨rfl, hb⟩
  have HBw3 := Lib.hid (below_step HBw2.out hb)
  clear hb
  have gA : w.heap.size ≤ w3.heap.size := by have hh := Below.size HBw3.out; exact hh
  go_wp2_with (((with_reducible refine wpList_store_rowTo rfl 27 (.tmp 7) (.tmp 30) rfl rfl (w3.heap.size) (A0.cells) ?_ ?_ 27 #[.int .u8 0, .int .u8 0, .int .u8 0, .int .u8 0, .int .u8 0, .int .u8 0, .int .u8 0, .int .u8 0, .int .u8 0, .int .u8 0, .int .u8 0, .int .u8 0, .int .u8 0, .int .i64 0, .int .i64 0, .int .i64 0, .int .i64 0] (heap_alloc_at rfl) HIA.out rfl (one_cells _) ?_); (as_aux_lemma => kernel_rfl); (as_aux_lemma => kernel_rfl); rw [setRow_allocAt rfl]))
  refine (two_any _).mono ?_
  rintro e w4 ⟨rfl, hb⟩
  have Aw4 := Lib.hid (show w4.heap[w3.heap.size]? = some (.cells A0.cells 27) from row_below hb (heap_alloc_at rfl))
  have lAw4 : w3.heap.size < w4.heap.size := row_lt Aw4.out
  have HBw4 := Lib.hid (below_step (below_more HBw3.out (.cells A0.cells 27)) hb)
  clear hb
  go_wp2_with (fail)
  refine (one_any _).mono ?_
  rintro e w5 ⟨rfl, hb⟩
  have Aw5 := Lib.hid (show w5.heap[w3.heap.size]? = some (.cells A0.cells 27) from row_below hb Aw4.out)
  have lAw5 : w3.heap.size < w5.heap.size := row_lt Aw5.out
  have HBw5 := Lib.hid (below_step HBw4.out hb)
  clear hb
  go_wp2_with (fail)
  refine (HC1.out _).mono ?_
  rintro e w6 ⟨rfl, hb⟩
  have Aw6 := Lib.hid (show w6.heap[w3.heap.size]? = some (.cells A0.cells 27) from row_below hb Aw5.out)
  have lAw6 : w3.heap.size < w6.heap.size := row_lt Aw6.out
  have HBw6 := Lib.hid (below_step HBw5.out hb)
  clear hb
  have nA_B : w3.heap.size < w6.heap.size := lAw6
  have gB : w.heap.size ≤ w6.heap.size := by have hh := Below.size HBw6.out; exact hh
  go_wp2_with ((with_reducible refine wpList_store_rowTo rfl 27 (.tmp 9) (.tmp 37) rfl rfl (w6.heap.size) (B0.cells) ?_ ?_ 27 #[.int .u8 0, .int .u8 0, .int .u8 0, .int .u8 0, .int .u8 0, .int .u8 0, .int .u8 0, .int .u8 0, .int .u8 0, .int .u8 0, .int .u8 0, .int .u8 0, .int .u8 0, .int .i64 0, .int .i64 0, .int .i64 0, .int .i64 0] (heap_alloc_at rfl) HIB.out rfl (one_cells _) ?_); (as_aux_lemma => kernel_rfl); (as_aux_lemma => kernel_rfl); rw [setRow_allocAt rfl])
  have HBG := Lib.hid (below_more HBw6.out (.cells B0.cells 27))
  have RA := Lib.hid (show (w6.alloc (.cells B0.cells 27)).heap[w3.heap.size]? = some (.cells A0.cells 27) from (row_alloc Aw6.out))
  have RB := Lib.hid (show (w6.alloc (.cells B0.cells 27)).heap[w6.heap.size]? = some (.cells B0.cells 27) from (heap_alloc_at rfl))
  refine (great_any v n E _ (HEV.out.below HBG.out)).mono ?_
  rintro e wq ⟨b, rfl, rfl, hgood⟩
  have HGD := Lib.hid hgood
  clear hgood
  cases b
  all_goals
    go_wp2
    go_ret
    exact ⟨rfl, HBG.out⟩
set_option maxRecDepth 100000 in
set_option maxHeartbeats 16000000 in
theorem in_ (id other : Int) (hi : -9223372036854775808 ≤ id ∧ id ≤ 9223372036854775807) (ho : -9223372036854775808 ≤ other ∧ other ≤ 9223372036854775807) (h0 : inB id = true) (h1 : inB other = true) (v : Value) (n : Nat) (E : Nat → Ev) (w : World) (hE : EvIn w v n E) : Calls Try.prog 7 #[.int .i64 id, .int .i64 other, v] w (BoolR w) := by
  have HEV := Lib.hid hE
  have HA0 := Lib.hid (wf_k0 hi)
  have HB0 := Lib.hid (wf_k1 ho)
  have HC0 := Lib.hid (fun W => new0_any id W)
  have HC1 := Lib.hid (fun W => new1_any other W)
  have he0 : idE id = 0 := by simp only [idE, h0]; rfl
  rw [he0] at HC0
  have he1 : idE other = 0 := by simp only [idE, h1]; rfl
  rw [he1] at HC1
  generalize k0 id = A0 at *
  generalize k1 other = B0 at *
  have HIA := Lib.hid (link_info2 A0)
  have HIB := Lib.hid (link_info2 B0)
  have HIP := Lib.hid (pair_info A0 B0)
  go_enter Try.func7, Try.ntmps7
  go_wp2_with (fail)
  refine (one_any _).mono ?_
  rintro e w1 ⟨rfl, hb⟩
  have HBw1 := Lib.hid (below_step (Below.refl w.heap.size w) hb)
  clear hb
  go_wp2_with (fail)
  refine (two_any _).mono ?_
  rintro e w2 ⟨rfl, hb⟩
  have HBw2 := Lib.hid (below_step HBw1.out hb)
  clear hb
  go_wp2_with (fail)
  refine (HC0.out _).mono ?_
  rintro e w3 ⟨rfl, hb⟩
  have HBw3 := Lib.hid (below_step HBw2.out hb)
  clear hb
  have gA : w.heap.size ≤ w3.heap.size := by have hh := Below.size HBw3.out; exact hh
  go_wp2_with (((with_reducible refine wpList_store_rowTo rfl 27 (.tmp 7) (.tmp 30) rfl rfl (w3.heap.size) (A0.cells) ?_ ?_ 27 #[.int .u8 0, .int .u8 0, .int .u8 0, .int .u8 0, .int .u8 0, .int .u8 0, .int .u8 0, .int .u8 0, .int .u8 0, .int .u8 0, .int .u8 0, .int .u8 0, .int .u8 0, .int .i64 0, .int .i64 0, .int .i64 0, .int .i64 0] (heap_alloc_at rfl) HIA.out rfl (one_cells _) ?_); (as_aux_lemma => kernel_rfl); (as_aux_lemma => kernel_rfl); rw [setRow_allocAt rfl]))
  refine (two_any _).mono ?_
  rintro e w4 ⟨rfl, hb⟩
  have Aw4 := Lib.hid (show w4.heap[w3.heap.size]? = some (.cells A0.cells 27) from row_below hb (heap_alloc_at rfl))
  have lAw4 : w3.heap.size < w4.heap.size := row_lt Aw4.out
  have HBw4 := Lib.hid (below_step (below_more HBw3.out (.cells A0.cells 27)) hb)
  clear hb
  go_wp2_with (fail)
  refine (one_any _).mono ?_
  rintro e w5 ⟨rfl, hb⟩
  have Aw5 := Lib.hid (show w5.heap[w3.heap.size]? = some (.cells A0.cells 27) from row_below hb Aw4.out)
  have lAw5 : w3.heap.size < w5.heap.size := row_lt Aw5.out
  have HBw5 := Lib.hid (below_step HBw4.out hb)
  clear hb
  go_wp2_with (fail)
  refine (HC1.out _).mono ?_
  rintro e w6 ⟨rfl, hb⟩
  have Aw6 := Lib.hid (show w6.heap[w3.heap.size]? = some (.cells A0.cells 27) from row_below hb Aw5.out)
  have lAw6 : w3.heap.size < w6.heap.size := row_lt Aw6.out
  have HBw6 := Lib.hid (below_step HBw5.out hb)
  clear hb
  have nA_B : w3.heap.size < w6.heap.size := lAw6
  have gB : w.heap.size ≤ w6.heap.size := by have hh := Below.size HBw6.out; exact hh
  go_wp2_with ((with_reducible refine wpList_store_rowTo rfl 27 (.tmp 9) (.tmp 37) rfl rfl (w6.heap.size) (B0.cells) ?_ ?_ 27 #[.int .u8 0, .int .u8 0, .int .u8 0, .int .u8 0, .int .u8 0, .int .u8 0, .int .u8 0, .int .u8 0, .int .u8 0, .int .u8 0, .int .u8 0, .int .u8 0, .int .u8 0, .int .i64 0, .int .i64 0, .int .i64 0, .int .i64 0] (heap_alloc_at rfl) HIB.out rfl (one_cells _) ?_); (as_aux_lemma => kernel_rfl); (as_aux_lemma => kernel_rfl); rw [setRow_allocAt rfl])
  have HBG := Lib.hid (below_more HBw6.out (.cells B0.cells 27))
  have RA := Lib.hid (show (w6.alloc (.cells B0.cells 27)).heap[w3.heap.size]? = some (.cells A0.cells 27) from (row_alloc Aw6.out))
  have RB := Lib.hid (show (w6.alloc (.cells B0.cells 27)).heap[w6.heap.size]? = some (.cells B0.cells 27) from (heap_alloc_at rfl))
  refine (great_any v n E _ (HEV.out.below HBG.out)).mono ?_
  rintro e wq ⟨b, rfl, rfl, hgood⟩
  have HGD := Lib.hid hgood
  clear hgood
  cases b with
  | true =>
    go_wp2
    go_ret
    exact ⟨rfl, HBG.out⟩
  | false =>
    obtain ⟨hn, hg⟩ := HGD.out rfl
    have HG2 := Lib.hid hg
    clear hg HGD
    have HEW := Lib.hid (HEV.out.below HBG.out)
    clear HEV
    generalize (w6.alloc (.cells B0.cells 27)) = wg at *
    obtain ⟨ao, cap, rfl, hcap, hcm, hev⟩ := HEW.out
    have HEV := Lib.hid hev
    clear hev HEW
    have hnm : (n : Int) ≤ 100 := by omega
    have lAwg : w3.heap.size < wg.heap.size := row_lt RA.out
    have lBwg : w6.heap.size < wg.heap.size := row_lt RB.out
    have nA_X : w3.heap.size < wg.heap.size := lAwg
    have nB_X : w6.heap.size < wg.heap.size := lBwg
    have gX : wg.heap.size ≤ wg.heap.size := by have hh := Below.size (Below.refl wg.heap.size wg); exact hh
    have nA_Y : w3.heap.size < wg.heap.size + 1 := Nat.lt_succ_of_lt (lAwg)
    have nB_Y : w6.heap.size < wg.heap.size + 1 := Nat.lt_succ_of_lt (lBwg)
    have nX_Y : wg.heap.size < wg.heap.size + 1 := Nat.lt_succ_self _
    have gY : wg.heap.size ≤ wg.heap.size + 1 := by have hh := Below.size (below_more (Below.refl wg.heap.size wg) (.cells (pairCells A0 B0) 28)); simp only [World.size_alloc] at hh; exact hh
    go_upto_region 7 with (first
      | (with_reducible refine wpList_load_row rfl 27 (.tmp 7) rfl (w3.heap.size) rfl 27 (A0.cells) (0, 0) _ RA.out Try.underlying27 rfl HIA.out ?_)
      | (with_reducible refine wpList_load_row rfl 27 (.tmp 9) rfl (w6.heap.size) rfl 27 (B0.cells) (0, 0) _ RB.out Try.underlying27 rfl HIB.out ?_)
      | (with_reducible refine wpList_runTo rfl (some 51) rfl (.agg (pairCells A0 B0)) wg (by as_aux_lemma => kernel_rfl) ?_; simp only [Act.put, List.setIfInBounds_toArray, List.set_cons_succ, List.set_cons_zero])
      | (with_reducible refine wpList_runTo rfl (some 11) rfl (.pointer (some ⟨wg.heap.size, 0, none⟩)) (wg.alloc (.cells zp 28)) (by as_aux_lemma => kernel_rfl) ?_; simp only [Act.put, List.setIfInBounds_toArray, List.set_cons_succ, List.set_cons_zero])
      | ((with_reducible refine wpList_store_rowTo rfl 28 (.tmp 11) (.tmp 51) rfl rfl (wg.heap.size) (pairCells A0 B0) ?_ ?_ 28 zp (heap_alloc_at rfl) HIP.out rfl (pair_one _ _) ?_); (as_aux_lemma => kernel_rfl); (as_aux_lemma => kernel_rfl); rw [setRow_allocAt rfl])
      | (with_reducible refine wpList_load_row rfl 28 (.tmp 11) rfl (wg.heap.size) rfl 28 ((pairCells A0 B0)) (0, 0) _ (heap_alloc_at rfl) Try.underlying28 rfl HIP.out ?_)
      | (with_reducible refine wpList_runTo rfl (some 12) rfl (.pointer (some ⟨wg.heap.size + 1, 0, none⟩)) ((wg.alloc (.cells (pairCells A0 B0) 28)).alloc (.cells zp 28)) (by as_aux_lemma => kernel_rfl) ?_; simp only [Act.put, List.setIfInBounds_toArray, List.set_cons_succ, List.set_cons_zero])
      | ((with_reducible refine wpList_store_rowTo rfl 28 (.tmp 12) (.tmp 52) rfl rfl (wg.heap.size + 1) (pairCells A0 B0) ?_ ?_ 28 zp (heap_alloc_at (by simp only [World.size_alloc])) HIP.out rfl (pair_one _ _) ?_); (as_aux_lemma => kernel_rfl); (as_aux_lemma => kernel_rfl); rw [setRow_allocAt (by simp only [World.size_alloc])]))
    clear gA lAw4 lAw5 lAw6 nA_B gB lAwg lBwg nA_X nB_X gX nA_Y nB_Y nX_Y gY
    have HST := Lib.hid (su_start wg A0 B0)
    go_wp2_with fail
    go_loopg [14, 15] n (fun g now i wr => ∃ (k : Nat) (N : Int), k ≤ n ∧ g = n - k ∧ i = .int .i64 k ∧ now = .int .i64 N ∧ RunsAt wg wr k N)
    case atStart => exact ⟨0, 0, by omega, by omega, rfl, rfl, A0, B0, [], [], _, _, HA0.out, HB0.out, (fun m hm => by cases hm), (fun m hm => by cases hm), by simp, by simp, by omega, HST.out⟩
    case round =>
      clear HST HIP HIA HIB HA0 HB0 RA RB HC0 HC1 he0 he1 h0 h1 hi ho
      obtain ⟨k, N, hk, rfl, rfl, rfl, hp⟩ := hrel
      obtain ⟨x, y, s0, s1, v0, v1, hX, hY, hs0, hs1, hl0, hl1, ⟨hN0, hN1⟩, hst⟩ := hp
      have WX := Lib.hid hX
      have WY := Lib.hid hY
      have M0 := Lib.hid hs0
      have M1 := Lib.hid hs1
      have T := Lib.hid hst
      clear hX hY hs0 hs1 hst
      by_cases hlt : k < n
      · obtain ⟨b, o, rfl, hc⟩ := HEV.out (by omega)
        obtain ⟨a0, a1, a2, a3, e0, e1, e2, e3⟩ := hc k hlt
        obtain ⟨gw0, gw1, gw2⟩ := HG2.out k hlt
        have hbe := T.out.below
        have c0 := below_kept hbe a0
        have c1 := below_kept hbe a1
        have c2 := below_kept hbe a2
        have c3 := below_kept hbe a3
        clear hc a0 a1 a2 a3 hbe e2 e3
        generalize (E k).kd = kd at *
        generalize (E k).tt = tt at *
        generalize (E k).wh = wh at *
        generalize (E k).wt = wt at *
        have hlz : (k : Int) < n := by omega
        have hk0 : (0 : Int) ≤ k := by omega
        have hN2 : N ≤ 100000000 := by omega
        have hat : tt % 2 = 0 ∨ tt % 2 = 1 := by omega
        rcases hat with hat | hat
        · go_upto_block 2 with fail
          obtain ⟨aoX, cX, eX⟩ := out_form T.out.l1
          subst eX
          have HIX := Lib.hid (link_info2 x)
          obtain ⟨re, rt, ru⟩ := fr_rows3 wr (.cells #[.int .u8 kd, .int .u8 tt, .int .i64 wh, .int .i64 wt] 56) (.cells #[.int .u8 0, .int .u8 0, .int .u8 0, .int .u8 0, .int .u8 0, .int .u8 0, .int .u8 0, .int .u8 0, .int .u8 0, .int .u8 0, .int .u8 0, .int .u8 0, .int .u8 0, .int .i64 0, .int .i64 0, .int .i64 0, .int .i64 0] 27) (.cells #[.int .u8 0, .int .u8 0, .int .u8 0, .int .u8 0, .int .u8 0, .int .u8 0, .int .u8 0, .int .u8 0, .int .u8 0, .int .u8 0, .int .u8 0, .int .u8 0, .int .u8 0, .int .i64 0, .int .i64 0, .int .i64 0, .int .i64 0] 27)
          have RE := Lib.hid re
          have RT := Lib.hid rt
          have RU := Lib.hid ru
          have HBW := Lib.hid (show Below wr.heap.size wr (((wr.alloc (.cells #[.int .u8 kd, .int .u8 tt, .int .i64 wh, .int .i64 wt] 56)).alloc (.cells #[.int .u8 0, .int .u8 0, .int .u8 0, .int .u8 0, .int .u8 0, .int .u8 0, .int .u8 0, .int .u8 0, .int .u8 0, .int .u8 0, .int .u8 0, .int .u8 0, .int .u8 0, .int .i64 0, .int .i64 0, .int .i64 0, .int .i64 0] 27)).alloc (.cells #[.int .u8 0, .int .u8 0, .int .u8 0, .int .u8 0, .int .u8 0, .int .u8 0, .int .u8 0, .int .u8 0, .int .u8 0, .int .u8 0, .int .u8 0, .int .u8 0, .int .u8 0, .int .i64 0, .int .i64 0, .int .i64 0, .int .i64 0] 27)) from below_more (below_more (below_more (Below.refl _ _) _) _) _)
          clear re rt ru
          generalize (((wr.alloc (.cells #[.int .u8 kd, .int .u8 tt, .int .i64 wh, .int .i64 wt] 56)).alloc (.cells #[.int .u8 0, .int .u8 0, .int .u8 0, .int .u8 0, .int .u8 0, .int .u8 0, .int .u8 0, .int .u8 0, .int .u8 0, .int .u8 0, .int .u8 0, .int .u8 0, .int .u8 0, .int .i64 0, .int .i64 0, .int .i64 0, .int .i64 0] 27)).alloc (.cells #[.int .u8 0, .int .u8 0, .int .u8 0, .int .u8 0, .int .u8 0, .int .u8 0, .int .u8 0, .int .u8 0, .int .u8 0, .int .u8 0, .int .u8 0, .int .u8 0, .int .u8 0, .int .i64 0, .int .i64 0, .int .i64 0, .int .i64 0] 27)) = wB at *
          have hTl : wr.heap.size + 1 + 1 < wB.heap.size := row_lt RU.out
          have hN3 : N + wt ≤ 1000000000 := by omega
          have hN4 : 0 ≤ N + wt := by omega
          have tx : wr.cell? ⟨wg.heap.size + 1 + 1, 1, none⟩ = some (.slice aoX s1.length cX) := (cell_of_row _ _ _ _ _ _ T.out.ro).trans rfl
          go_cut [20, 21, 22, 23] (fun t20 t21 t22 t23 wx => ∃ (k2 : Lk) (ms2 : List (List Int)) (er : Int) (v2 v3 : Value), t20 = v2 ∧ t21 = v3 ∧ t22 = .int .i64 er ∧ t23 = .int .i64 er ∧ k2.Wf ∧ (∀ m ∈ ms2, MsgOk m) ∧ ms2.length ≤ 2 ∧ wx.heap[wr.heap.size + 1]? = some (.cells k2.cells 27) ∧ wx.heap[wr.heap.size + 1 + 1]? = some (.cells k2.cells 27) ∧ Below wr.heap.size wr wx ∧ OutAt wx (wr.heap.size + 3) v2 ms2 ∧ OutAt wx (wr.heap.size + 3) v3 ms2)
          case first =>
            as_aux_lemma =>
              have ce0 : wB.cell? ⟨wr.heap.size, 0, none⟩ = some (.int .u8 kd) := (cell_of_row _ _ _ _ _ _ RE.out).trans rfl
              have tb : wB.cell? ⟨wg.heap.size + 1 + 1, 1, none⟩ = some (.slice aoX s1.length cX) := below_kept HBW.out tx
              have RP := Lib.hid (row_below HBW.out T.out.rp)
              have RQ := Lib.hid (row_below HBW.out T.out.rq)
              have hgz : wg.heap.size + 1 + 1 < wr.heap.size := row_lt T.out.ro
              by_cases hk0 : kd = 0
              · subst hk0
                obtain ⟨⟨k2, ms2, er⟩, hr⟩ : ∃ r : Res, pStart x (N + wt) = r := ⟨_, rfl⟩
                have hfine : Res.Fine (k2, ms2, er) := hr ▸ fine_start WX.out.toBy (N + wt)
                have hwf : k2.Wf := by have h := wf_start WX.out.toBy (N + wt); rw [hr] at h; exact h
                have CON := Lib.hid (fun W => ret_of hr (start_any x WX.out.toBy (N + wt) W))
                have COR := Lib.hid (fun W => ret_of hr (rstart_any x WX.out.toBy WX.out.st.1 (N + wt) W))
                have HI2 := Lib.hid (link_info2 k2)
                have HF := Lib.hid hfine
                have HWF := Lib.hid hwf
                clear hr hfine hwf
                go_wp2_with ((with_reducible refine wpList_load_sub rfl 27 (.tmp 111) rfl wg.heap.size 0 rfl x.cells _ (range_pair0 RP.out) Try.underlying27 rfl HIX.out ?_))
                refine (CON.out _).mono ?_
                rintro e w1 ⟨v2, rfl, hO, hb1⟩
                have RT1 := Lib.hid (row_below hb1 RT.out)
                have RU1 := Lib.hid (row_below hb1 RU.out)
                have RQ1 := Lib.hid (row_below hb1 RQ.out)
                have HB1 := Lib.hid (HBW.out.trans (hb1.mono HBW.out.size))
                have hz1 : wr.heap.size + 1 + 1 < w1.heap.size := row_lt RU1.out
                have RT2 := Lib.hid (show (w1.setRow (wr.heap.size + 1) k2.cells).heap[wr.heap.size + 1]? = some (.cells k2.cells 27) from setRow_heap _ _ _ _ _ _ RT1.out)
                have RU2 := Lib.hid (show (w1.setRow (wr.heap.size + 1) k2.cells).heap[wr.heap.size + 1 + 1]? = some (.cells #[.int .u8 0, .int .u8 0, .int .u8 0, .int .u8 0, .int .u8 0, .int .u8 0, .int .u8 0, .int .u8 0, .int .u8 0, .int .u8 0, .int .u8 0, .int .u8 0, .int .u8 0, .int .i64 0, .int .i64 0, .int .i64 0, .int .i64 0] 27) from (setRow_other _ _ _ _ (by omega)).trans RU1.out)
                have RQ2 := Lib.hid (show (w1.setRow (wr.heap.size + 1) k2.cells).heap[wg.heap.size + 1]? = some (.cells (pairCells x y) 28) from (setRow_other _ _ _ _ (by omega)).trans RQ1.out)
                have HB2 := Lib.hid (show Below wr.heap.size wr (w1.setRow (wr.heap.size + 1) k2.cells) from below_setRow' HB1.out (Nat.le_succ _) _)
                have LO2 := Lib.hid (show OutAt (w1.setRow (wr.heap.size + 1) k2.cells) (wr.heap.size + 3) v2 ms2 from (hO.setRow _ (by omega) _).mono (by omega))
                have hz2 : wr.heap.size + 1 + 1 < (w1.setRow (wr.heap.size + 1) k2.cells).heap.size := row_lt RU2.out
                clear hO hb1
                go_wp2_with (first
                  | ((with_reducible refine wpList_store_rowTo rfl 27 (.tmp 18) (.tmp 115) rfl rfl (wr.heap.size + 1) k2.cells ?_ ?_ 27 (#[.int .u8 0, .int .u8 0, .int .u8 0, .int .u8 0, .int .u8 0, .int .u8 0, .int .u8 0, .int .u8 0, .int .u8 0, .int .u8 0, .int .u8 0, .int .u8 0, .int .u8 0, .int .i64 0, .int .i64 0, .int .i64 0, .int .i64 0]) RT1.out HI2.out rfl (one_cells _) ?_); (as_aux_lemma => kernel_rfl); (as_aux_lemma => kernel_rfl))
                  | ((with_reducible refine wpList_load_sub rfl 27 (.tmp 120) rfl (wg.heap.size + 1) 0 rfl x.cells _ (range_pair0 RQ2.out) Try.underlying27 rfl HIX.out ?_)))
                refine (COR.out _).mono ?_
                rintro e w2 ⟨v3, rfl, hO, hb2⟩
                have RT3 := Lib.hid (row_below hb2 RT2.out)
                have RU3 := Lib.hid (row_below hb2 RU2.out)
                have HB3 := Lib.hid (HB2.out.trans (hb2.mono HB2.out.size))
                have LO3 := Lib.hid (LO2.out.below hb2)
                have hz3 : wr.heap.size + 1 + 1 < w2.heap.size := row_lt RU3.out
                have LR3 := Lib.hid (show OutAt (w2.setRow (wr.heap.size + 1 + 1) k2.cells) (wr.heap.size + 3) v3 ms2 from (hO.setRow _ (by omega) _).mono (by omega))
                clear hO hb2
                go_wp2_with ((with_reducible refine wpList_store_rowTo rfl 27 (.tmp 19) (.tmp 124) rfl rfl (wr.heap.size + 1 + 1) k2.cells ?_ ?_ 27 (#[.int .u8 0, .int .u8 0, .int .u8 0, .int .u8 0, .int .u8 0, .int .u8 0, .int .u8 0, .int .u8 0, .int .u8 0, .int .u8 0, .int .u8 0, .int .u8 0, .int .u8 0, .int .i64 0, .int .i64 0, .int .i64 0, .int .i64 0]) RU3.out HI2.out rfl (one_cells _) ?_); (as_aux_lemma => kernel_rfl); (as_aux_lemma => kernel_rfl))
                go_meet
                case rel => exact ⟨k2, ms2, er, _, _, rfl, rfl, rfl, rfl, HWF.out, HF.out.2.1, HF.out.2.2, (setRow_other _ _ _ _ (by omega)).trans RT3.out, setRow_heap _ _ _ _ _ _ RU3.out, below_setRow' HB3.out (by omega) _, LO3.out.setRow _ (by omega) _, LR3.out⟩
              have hk0' : (kd == 0) = false := by simpa using hk0
              by_cases hk1 : kd = 1
              · subst hk1
                obtain ⟨⟨k2, ms2, er⟩, hr⟩ : ∃ r : Res, pClose x (N + wt) = r := ⟨_, rfl⟩
                have hfine : Res.Fine (k2, ms2, er) := hr ▸ fine_close WX.out.toBy (N + wt)
                have hwf : k2.Wf := by have h := wf_close WX.out.toBy (N + wt); rw [hr] at h; exact h
                have CON := Lib.hid (fun W => ret_of hr (close_any x WX.out.toBy (N + wt) W))
                have COR := Lib.hid (fun W => ret_of hr (rclose_any x WX.out.toBy WX.out.st.1 (N + wt) W))
                have HI2 := Lib.hid (link_info2 k2)
                have HF := Lib.hid hfine
                have HWF := Lib.hid hwf
                clear hr hfine hwf
                go_wp2_with ((with_reducible refine wpList_load_sub rfl 27 (.tmp 133) rfl wg.heap.size 0 rfl x.cells _ (range_pair0 RP.out) Try.underlying27 rfl HIX.out ?_))
                refine (CON.out _).mono ?_
                rintro e w1 ⟨v2, rfl, hO, hb1⟩
                have RT1 := Lib.hid (row_below hb1 RT.out)
                have RU1 := Lib.hid (row_below hb1 RU.out)
                have RQ1 := Lib.hid (row_below hb1 RQ.out)
                have HB1 := Lib.hid (HBW.out.trans (hb1.mono HBW.out.size))
                have hz1 : wr.heap.size + 1 + 1 < w1.heap.size := row_lt RU1.out
                have RT2 := Lib.hid (show (w1.setRow (wr.heap.size + 1) k2.cells).heap[wr.heap.size + 1]? = some (.cells k2.cells 27) from setRow_heap _ _ _ _ _ _ RT1.out)
                have RU2 := Lib.hid (show (w1.setRow (wr.heap.size + 1) k2.cells).heap[wr.heap.size + 1 + 1]? = some (.cells #[.int .u8 0, .int .u8 0, .int .u8 0, .int .u8 0, .int .u8 0, .int .u8 0, .int .u8 0, .int .u8 0, .int .u8 0, .int .u8 0, .int .u8 0, .int .u8 0, .int .u8 0, .int .i64 0, .int .i64 0, .int .i64 0, .int .i64 0] 27) from (setRow_other _ _ _ _ (by omega)).trans RU1.out)
                have RQ2 := Lib.hid (show (w1.setRow (wr.heap.size + 1) k2.cells).heap[wg.heap.size + 1]? = some (.cells (pairCells x y) 28) from (setRow_other _ _ _ _ (by omega)).trans RQ1.out)
                have HB2 := Lib.hid (show Below wr.heap.size wr (w1.setRow (wr.heap.size + 1) k2.cells) from below_setRow' HB1.out (Nat.le_succ _) _)
                have LO2 := Lib.hid (show OutAt (w1.setRow (wr.heap.size + 1) k2.cells) (wr.heap.size + 3) v2 ms2 from (hO.setRow _ (by omega) _).mono (by omega))
                have hz2 : wr.heap.size + 1 + 1 < (w1.setRow (wr.heap.size + 1) k2.cells).heap.size := row_lt RU2.out
                clear hO hb1
                go_wp2_with (first
                  | ((with_reducible refine wpList_store_rowTo rfl 27 (.tmp 18) (.tmp 137) rfl rfl (wr.heap.size + 1) k2.cells ?_ ?_ 27 (#[.int .u8 0, .int .u8 0, .int .u8 0, .int .u8 0, .int .u8 0, .int .u8 0, .int .u8 0, .int .u8 0, .int .u8 0, .int .u8 0, .int .u8 0, .int .u8 0, .int .u8 0, .int .i64 0, .int .i64 0, .int .i64 0, .int .i64 0]) RT1.out HI2.out rfl (one_cells _) ?_); (as_aux_lemma => kernel_rfl); (as_aux_lemma => kernel_rfl))
                  | ((with_reducible refine wpList_load_sub rfl 27 (.tmp 142) rfl (wg.heap.size + 1) 0 rfl x.cells _ (range_pair0 RQ2.out) Try.underlying27 rfl HIX.out ?_)))
                refine (COR.out _).mono ?_
                rintro e w2 ⟨v3, rfl, hO, hb2⟩
                have RT3 := Lib.hid (row_below hb2 RT2.out)
                have RU3 := Lib.hid (row_below hb2 RU2.out)
                have HB3 := Lib.hid (HB2.out.trans (hb2.mono HB2.out.size))
                have LO3 := Lib.hid (LO2.out.below hb2)
                have hz3 : wr.heap.size + 1 + 1 < w2.heap.size := row_lt RU3.out
                have LR3 := Lib.hid (show OutAt (w2.setRow (wr.heap.size + 1 + 1) k2.cells) (wr.heap.size + 3) v3 ms2 from (hO.setRow _ (by omega) _).mono (by omega))
                clear hO hb2
                go_wp2_with ((with_reducible refine wpList_store_rowTo rfl 27 (.tmp 19) (.tmp 146) rfl rfl (wr.heap.size + 1 + 1) k2.cells ?_ ?_ 27 (#[.int .u8 0, .int .u8 0, .int .u8 0, .int .u8 0, .int .u8 0, .int .u8 0, .int .u8 0, .int .u8 0, .int .u8 0, .int .u8 0, .int .u8 0, .int .u8 0, .int .u8 0, .int .i64 0, .int .i64 0, .int .i64 0, .int .i64 0]) RU3.out HI2.out rfl (one_cells _) ?_); (as_aux_lemma => kernel_rfl); (as_aux_lemma => kernel_rfl))
                go_meet
                case rel => exact ⟨k2, ms2, er, _, _, rfl, rfl, rfl, rfl, HWF.out, HF.out.2.1, HF.out.2.2, (setRow_other _ _ _ _ (by omega)).trans RT3.out, setRow_heap _ _ _ _ _ _ RU3.out, below_setRow' HB3.out (by omega) _, LO3.out.setRow _ (by omega) _, LR3.out⟩
              have hk1' : (kd == 1) = false := by simpa using hk1
              by_cases hk2 : kd = 2
              · subst hk2
                obtain ⟨⟨k2, ms2, er⟩, hr⟩ : ∃ r : Res, pTick x (N + wt) = r := ⟨_, rfl⟩
                have hfine : Res.Fine (k2, ms2, er) := hr ▸ fine_tick WX.out.toBy (N + wt)
                have hwf : k2.Wf := by have h := wf_tick WX.out.toBy (N + wt); rw [hr] at h; exact h
                have CON := Lib.hid (fun W => ret_of hr (tick_any x WX.out.toBy (N + wt) W))
                have COR := Lib.hid (fun W => ret_of hr (rtick_any x WX.out.toBy WX.out.st.1 (N + wt) W))
                have HI2 := Lib.hid (link_info2 k2)
                have HF := Lib.hid hfine
                have HWF := Lib.hid hwf
                clear hr hfine hwf
                go_wp2_with ((with_reducible refine wpList_load_sub rfl 27 (.tmp 163) rfl wg.heap.size 0 rfl x.cells _ (range_pair0 RP.out) Try.underlying27 rfl HIX.out ?_))
                refine (CON.out _).mono ?_
                rintro e w1 ⟨v2, rfl, hO, hb1⟩
                have RT1 := Lib.hid (row_below hb1 RT.out)
                have RU1 := Lib.hid (row_below hb1 RU.out)
                have RQ1 := Lib.hid (row_below hb1 RQ.out)
                have HB1 := Lib.hid (HBW.out.trans (hb1.mono HBW.out.size))
                have hz1 : wr.heap.size + 1 + 1 < w1.heap.size := row_lt RU1.out
                have RT2 := Lib.hid (show (w1.setRow (wr.heap.size + 1) k2.cells).heap[wr.heap.size + 1]? = some (.cells k2.cells 27) from setRow_heap _ _ _ _ _ _ RT1.out)
                have RU2 := Lib.hid (show (w1.setRow (wr.heap.size + 1) k2.cells).heap[wr.heap.size + 1 + 1]? = some (.cells #[.int .u8 0, .int .u8 0, .int .u8 0, .int .u8 0, .int .u8 0, .int .u8 0, .int .u8 0, .int .u8 0, .int .u8 0, .int .u8 0, .int .u8 0, .int .u8 0, .int .u8 0, .int .i64 0, .int .i64 0, .int .i64 0, .int .i64 0] 27) from (setRow_other _ _ _ _ (by omega)).trans RU1.out)
                have RQ2 := Lib.hid (show (w1.setRow (wr.heap.size + 1) k2.cells).heap[wg.heap.size + 1]? = some (.cells (pairCells x y) 28) from (setRow_other _ _ _ _ (by omega)).trans RQ1.out)
                have HB2 := Lib.hid (show Below wr.heap.size wr (w1.setRow (wr.heap.size + 1) k2.cells) from below_setRow' HB1.out (Nat.le_succ _) _)
                have LO2 := Lib.hid (show OutAt (w1.setRow (wr.heap.size + 1) k2.cells) (wr.heap.size + 3) v2 ms2 from (hO.setRow _ (by omega) _).mono (by omega))
                have hz2 : wr.heap.size + 1 + 1 < (w1.setRow (wr.heap.size + 1) k2.cells).heap.size := row_lt RU2.out
                clear hO hb1
                go_wp2_with (first
                  | ((with_reducible refine wpList_store_rowTo rfl 27 (.tmp 18) (.tmp 167) rfl rfl (wr.heap.size + 1) k2.cells ?_ ?_ 27 (#[.int .u8 0, .int .u8 0, .int .u8 0, .int .u8 0, .int .u8 0, .int .u8 0, .int .u8 0, .int .u8 0, .int .u8 0, .int .u8 0, .int .u8 0, .int .u8 0, .int .u8 0, .int .i64 0, .int .i64 0, .int .i64 0, .int .i64 0]) RT1.out HI2.out rfl (one_cells _) ?_); (as_aux_lemma => kernel_rfl); (as_aux_lemma => kernel_rfl))
                  | ((with_reducible refine wpList_load_sub rfl 27 (.tmp 172) rfl (wg.heap.size + 1) 0 rfl x.cells _ (range_pair0 RQ2.out) Try.underlying27 rfl HIX.out ?_)))
                refine (COR.out _).mono ?_
                rintro e w2 ⟨v3, rfl, hO, hb2⟩
                have RT3 := Lib.hid (row_below hb2 RT2.out)
                have RU3 := Lib.hid (row_below hb2 RU2.out)
                have HB3 := Lib.hid (HB2.out.trans (hb2.mono HB2.out.size))
                have LO3 := Lib.hid (LO2.out.below hb2)
                have hz3 : wr.heap.size + 1 + 1 < w2.heap.size := row_lt RU3.out
                have LR3 := Lib.hid (show OutAt (w2.setRow (wr.heap.size + 1 + 1) k2.cells) (wr.heap.size + 3) v3 ms2 from (hO.setRow _ (by omega) _).mono (by omega))
                clear hO hb2
                go_wp2_with ((with_reducible refine wpList_store_rowTo rfl 27 (.tmp 19) (.tmp 176) rfl rfl (wr.heap.size + 1 + 1) k2.cells ?_ ?_ 27 (#[.int .u8 0, .int .u8 0, .int .u8 0, .int .u8 0, .int .u8 0, .int .u8 0, .int .u8 0, .int .u8 0, .int .u8 0, .int .u8 0, .int .u8 0, .int .u8 0, .int .u8 0, .int .i64 0, .int .i64 0, .int .i64 0, .int .i64 0]) RU3.out HI2.out rfl (one_cells _) ?_); (as_aux_lemma => kernel_rfl); (as_aux_lemma => kernel_rfl))
                go_meet
                case rel => exact ⟨k2, ms2, er, _, _, rfl, rfl, rfl, rfl, HWF.out, HF.out.2.1, HF.out.2.2, (setRow_other _ _ _ _ (by omega)).trans RT3.out, setRow_heap _ _ _ _ _ _ RU3.out, below_setRow' HB3.out (by omega) _, LO3.out.setRow _ (by omega) _, LR3.out⟩
              have hk2' : (kd == 2) = false := by simpa using hk2
              by_cases hsz : s1.length = 0
              · have hsz' : ((s1.length : Int) == 0) = true := by simp [hsz]
                obtain ⟨⟨k2, ms2, er⟩, hr⟩ : ∃ r : Res, pTick x (N + wt) = r := ⟨_, rfl⟩
                have hfine : Res.Fine (k2, ms2, er) := hr ▸ fine_tick WX.out.toBy (N + wt)
                have hwf : k2.Wf := by have h := wf_tick WX.out.toBy (N + wt); rw [hr] at h; exact h
                have CON := Lib.hid (fun W => ret_of hr (tick_any x WX.out.toBy (N + wt) W))
                have COR := Lib.hid (fun W => ret_of hr (rtick_any x WX.out.toBy WX.out.st.1 (N + wt) W))
                have HI2 := Lib.hid (link_info2 k2)
                have HF := Lib.hid hfine
                have HWF := Lib.hid hwf
                clear hr hfine hwf
                go_wp2_with ((with_reducible refine wpList_load_sub rfl 27 (.tmp 163) rfl wg.heap.size 0 rfl x.cells _ (range_pair0 RP.out) Try.underlying27 rfl HIX.out ?_))
                refine (CON.out _).mono ?_
                rintro e w1 ⟨v2, rfl, hO, hb1⟩
                have RT1 := Lib.hid (row_below hb1 RT.out)
                have RU1 := Lib.hid (row_below hb1 RU.out)
                have RQ1 := Lib.hid (row_below hb1 RQ.out)
                have HB1 := Lib.hid (HBW.out.trans (hb1.mono HBW.out.size))
                have hz1 : wr.heap.size + 1 + 1 < w1.heap.size := row_lt RU1.out
                have RT2 := Lib.hid (show (w1.setRow (wr.heap.size + 1) k2.cells).heap[wr.heap.size + 1]? = some (.cells k2.cells 27) from setRow_heap _ _ _ _ _ _ RT1.out)
                have RU2 := Lib.hid (show (w1.setRow (wr.heap.size + 1) k2.cells).heap[wr.heap.size + 1 + 1]? = some (.cells #[.int .u8 0, .int .u8 0, .int .u8 0, .int .u8 0, .int .u8 0, .int .u8 0, .int .u8 0, .int .u8 0, .int .u8 0, .int .u8 0, .int .u8 0, .int .u8 0, .int .u8 0, .int .i64 0, .int .i64 0, .int .i64 0, .int .i64 0] 27) from (setRow_other _ _ _ _ (by omega)).trans RU1.out)
                have RQ2 := Lib.hid (show (w1.setRow (wr.heap.size + 1) k2.cells).heap[wg.heap.size + 1]? = some (.cells (pairCells x y) 28) from (setRow_other _ _ _ _ (by omega)).trans RQ1.out)
                have HB2 := Lib.hid (show Below wr.heap.size wr (w1.setRow (wr.heap.size + 1) k2.cells) from below_setRow' HB1.out (Nat.le_succ _) _)
                have LO2 := Lib.hid (show OutAt (w1.setRow (wr.heap.size + 1) k2.cells) (wr.heap.size + 3) v2 ms2 from (hO.setRow _ (by omega) _).mono (by omega))
                have hz2 : wr.heap.size + 1 + 1 < (w1.setRow (wr.heap.size + 1) k2.cells).heap.size := row_lt RU2.out
                clear hO hb1
                go_wp2_with (first
                  | ((with_reducible refine wpList_store_rowTo rfl 27 (.tmp 18) (.tmp 167) rfl rfl (wr.heap.size + 1) k2.cells ?_ ?_ 27 (#[.int .u8 0, .int .u8 0, .int .u8 0, .int .u8 0, .int .u8 0, .int .u8 0, .int .u8 0, .int .u8 0, .int .u8 0, .int .u8 0, .int .u8 0, .int .u8 0, .int .u8 0, .int .i64 0, .int .i64 0, .int .i64 0, .int .i64 0]) RT1.out HI2.out rfl (one_cells _) ?_); (as_aux_lemma => kernel_rfl); (as_aux_lemma => kernel_rfl))
                  | ((with_reducible refine wpList_load_sub rfl 27 (.tmp 172) rfl (wg.heap.size + 1) 0 rfl x.cells _ (range_pair0 RQ2.out) Try.underlying27 rfl HIX.out ?_)))
                refine (COR.out _).mono ?_
                rintro e w2 ⟨v3, rfl, hO, hb2⟩
                have RT3 := Lib.hid (row_below hb2 RT2.out)
                have RU3 := Lib.hid (row_below hb2 RU2.out)
                have HB3 := Lib.hid (HB2.out.trans (hb2.mono HB2.out.size))
                have LO3 := Lib.hid (LO2.out.below hb2)
                have hz3 : wr.heap.size + 1 + 1 < w2.heap.size := row_lt RU3.out
                have LR3 := Lib.hid (show OutAt (w2.setRow (wr.heap.size + 1 + 1) k2.cells) (wr.heap.size + 3) v3 ms2 from (hO.setRow _ (by omega) _).mono (by omega))
                clear hO hb2
                go_wp2_with ((with_reducible refine wpList_store_rowTo rfl 27 (.tmp 19) (.tmp 176) rfl rfl (wr.heap.size + 1 + 1) k2.cells ?_ ?_ 27 (#[.int .u8 0, .int .u8 0, .int .u8 0, .int .u8 0, .int .u8 0, .int .u8 0, .int .u8 0, .int .u8 0, .int .u8 0, .int .u8 0, .int .u8 0, .int .u8 0, .int .u8 0, .int .i64 0, .int .i64 0, .int .i64 0, .int .i64 0]) RU3.out HI2.out rfl (one_cells _) ?_); (as_aux_lemma => kernel_rfl); (as_aux_lemma => kernel_rfl))
                go_meet
                case rel => exact ⟨k2, ms2, er, _, _, rfl, rfl, rfl, rfl, HWF.out, HF.out.2.1, HF.out.2.2, (setRow_other _ _ _ _ (by omega)).trans RT3.out, setRow_heap _ _ _ _ _ _ RU3.out, below_setRow' HB3.out (by omega) _, LO3.out.setRow _ (by omega) _, LR3.out⟩
              have hsz' : ((s1.length : Int) == 0) = false := by simpa using hsz
              obtain ⟨q, hq, hql⟩ := mod_nat2 (a := wh) (n := s1.length) gw2 (by omega)
              obtain ⟨gX, mv, m, rfl, hcX, hmv, hmA, hmm⟩ := out_cell T.out.l1 hql
              have HMI := Lib.hid (hmA.read (M1.out m hmm).2)
              have hmby := (M1.out m hmm).2
              obtain ⟨⟨k2, ms2, er⟩, hr⟩ : ∃ r : Res, pHandle x m (N + wt) = r := ⟨_, rfl⟩
              have hfine : Res.Fine (k2, ms2, er) := hr ▸ fine_handle WX.out.toBy m (N + wt)
              have hwf : k2.Wf := by have h := wf_handle WX.out.toBy m hmby (N + wt); rw [hr] at h; exact h
              have CON := Lib.hid (fun W (hq : MsgIn W mv m) => ret_of hr (handle_any x WX.out.toBy (N + wt) mv m W hq))
              have COR := Lib.hid (fun W (hq : MsgIn W mv m) => ret_of hr (rhandle_any x WX.out.toBy WX.out.st.1 (N + wt) mv m W hq))
              have HI2 := Lib.hid (link_info2 k2)
              have HF := Lib.hid hfine
              have HWF := Lib.hid hwf
              clear hr hfine hwf
              have hqt : wh.tmod (s1.length : Int) = (q : Int) := by rw [Int.tmod_eq_emod_of_nonneg gw2]; exact hq
              have hqi : (q : Int) < (s1.length : Int) := by omega
              have hqz : (0 : Int) ≤ (q : Int) := by omega
              have hsn : ¬ ((s1.length : Int) = 0) := by omega
              have hsp : (0 : Int) < (s1.length : Int) := by omega
              go_upto_region 18 with fail
              refine wp_region_held_drew (S := fun w' => Below wr.heap.size wr w' ∧ w'.heap[wr.heap.size]? = some (.cells #[.int .u8 kd, .int .u8 tt, .int .i64 wh, .int .i64 wt] 56)) (by kernel_rfl) (⟨HBW.out.drew, RE.out⟩) (fun hHeld => ?_)
              refine wpAnyH_take (i := 0) (v := .int .i64 0) rfl (by kernel_rfl) (by kernel_rfl) (by kernel_rfl) (fun _ _ _ h => h) (Or.inl ⟨by rfl, by intro w hSw; clear hHeld hSw; go_simp; (try rfl)⟩) (by assumption) ?_
              simp only [Act.put, List.setIfInBounds_toArray, List.set_cons_zero, List.set_cons_succ, List.getElem_toArray, List.getElem_cons_succ, List.getElem_cons_zero]
              refine wpAnyH_take (i := 1) (v := .int .i64 1) rfl (by kernel_rfl) (by kernel_rfl) (by kernel_rfl) (fun _ _ _ h => h) (Or.inl ⟨by rfl, by intro w hSw; clear hHeld hSw; go_simp; (try rfl)⟩) (by assumption) ?_
              simp only [Act.put, List.setIfInBounds_toArray, List.set_cons_zero, List.set_cons_succ, List.getElem_toArray, List.getElem_cons_succ, List.getElem_cons_zero]
              refine wpAnyH_take (i := 2) (v := .pointer (some ⟨wg.heap.size + 1 + 1, 1, none⟩)) rfl (by kernel_rfl) (by kernel_rfl) (by kernel_rfl) (fun _ _ _ h => h) (Or.inl ⟨by rfl, by intro w hSw; clear hHeld hSw; go_simp; (try rfl)⟩) (by assumption) ?_
              simp only [Act.put, List.setIfInBounds_toArray, List.set_cons_zero, List.set_cons_succ, List.getElem_toArray, List.getElem_cons_succ, List.getElem_cons_zero]
              refine wpAnyH_take (i := 3) (v := .slice (some ⟨gX, 0, none⟩) s1.length cX) rfl (by kernel_rfl) (by kernel_rfl) (by kernel_rfl) (fun _ _ _ h => h) (Or.inl ⟨by rfl, by intro w hSw; have tq := below_kept hSw.1 tx; clear hHeld hSw; go_simp⟩) (by assumption) ?_
              simp only [Act.put, List.setIfInBounds_toArray, List.set_cons_zero, List.set_cons_succ, List.getElem_toArray, List.getElem_cons_succ, List.getElem_cons_zero]
              refine wpAnyH_take (i := 4) (v := .pointer (some ⟨wr.heap.size, 2, none⟩)) rfl (by kernel_rfl) (by kernel_rfl) (by kernel_rfl) (fun _ _ _ h => h) (Or.inl ⟨by rfl, by intro w hSw; clear hHeld hSw; go_simp; (try rfl)⟩) (by assumption) ?_
              simp only [Act.put, List.setIfInBounds_toArray, List.set_cons_zero, List.set_cons_succ, List.getElem_toArray, List.getElem_cons_succ, List.getElem_cons_zero]
              refine wpAnyH_take (i := 5) (v := .int .i64 wh) rfl (by kernel_rfl) (by kernel_rfl) (by kernel_rfl) (fun _ _ _ h => h) (Or.inl ⟨by rfl, by intro w hSw; have tq : w.cell? ⟨wr.heap.size, 2, none⟩ = some (.int .i64 wh) := (cell_of_row _ _ _ _ _ _ hSw.2).trans rfl; clear hHeld hSw; go_simp⟩) (by assumption) ?_
              simp only [Act.put, List.setIfInBounds_toArray, List.set_cons_zero, List.set_cons_succ, List.getElem_toArray, List.getElem_cons_succ, List.getElem_cons_zero]
              refine wpAnyH_take (i := 6) (v := .int .i64 0) rfl (by kernel_rfl) (by kernel_rfl) (by kernel_rfl) (fun _ _ _ h => h) (Or.inl ⟨by rfl, by intro w hSw; clear hHeld hSw; go_simp; (try rfl)⟩) (by assumption) ?_
              simp only [Act.put, List.setIfInBounds_toArray, List.set_cons_zero, List.set_cons_succ, List.getElem_toArray, List.getElem_cons_succ, List.getElem_cons_zero]
              refine wpAnyH_take (i := 7) (v := .int .i64 1) rfl (by kernel_rfl) (by kernel_rfl) (by kernel_rfl) (fun _ _ _ h => h) (Or.inl ⟨by rfl, by intro w hSw; clear hHeld hSw; go_simp; (try rfl)⟩) (by assumption) ?_
              simp only [Act.put, List.setIfInBounds_toArray, List.set_cons_zero, List.set_cons_succ, List.getElem_toArray, List.getElem_cons_succ, List.getElem_cons_zero]
              refine wpAnyH_take (i := 8) (v := .pointer (some ⟨wg.heap.size + 1 + 1, 1, none⟩)) rfl (by kernel_rfl) (by kernel_rfl) (by kernel_rfl) (fun _ _ _ h => h) (Or.inl ⟨by rfl, by intro w hSw; clear hHeld hSw; go_simp; (try rfl)⟩) (by assumption) ?_
              simp only [Act.put, List.setIfInBounds_toArray, List.set_cons_zero, List.set_cons_succ, List.getElem_toArray, List.getElem_cons_succ, List.getElem_cons_zero]
              refine wpAnyH_take (i := 9) (v := .slice (some ⟨gX, 0, none⟩) s1.length cX) rfl (by kernel_rfl) (by kernel_rfl) (by kernel_rfl) (fun _ _ _ h => h) (Or.inl ⟨by rfl, by intro w hSw; have tq := below_kept hSw.1 tx; clear hHeld hSw; go_simp⟩) (by assumption) ?_
              simp only [Act.put, List.setIfInBounds_toArray, List.set_cons_zero, List.set_cons_succ, List.getElem_toArray, List.getElem_cons_succ, List.getElem_cons_zero]
              refine wpAnyH_take (i := 10) (v := .int .i64 s1.length) rfl (by kernel_rfl) (by kernel_rfl) (by kernel_rfl) (fun _ _ _ h => h) (Or.inl ⟨by rfl, by intro w hSw; clear hHeld hSw; go_simp; (try rfl)⟩) (by assumption) ?_
              simp only [Act.put, List.setIfInBounds_toArray, List.set_cons_zero, List.set_cons_succ, List.getElem_toArray, List.getElem_cons_succ, List.getElem_cons_zero]
              refine wpAnyH_take (i := 11) (v := .int .i64 q) rfl (by kernel_rfl) (by kernel_rfl) (by kernel_rfl) (fun _ _ _ h => h) (Or.inl ⟨by rfl, by intro w hSw; clear hHeld hSw; go_simp; (try exact hqt)⟩) (by assumption) ?_
              simp only [Act.put, List.setIfInBounds_toArray, List.set_cons_zero, List.set_cons_succ, List.getElem_toArray, List.getElem_cons_succ, List.getElem_cons_zero]
              refine wpAnyH_take (i := 12) (v := .pointer (some ⟨gX, q, none⟩)) rfl (by kernel_rfl) (by kernel_rfl) (by kernel_rfl) (fun _ _ _ h => h) (Or.inl ⟨by rfl, by intro w hSw; clear hHeld hSw; go_simp; (try rfl)⟩) (by assumption) ?_
              simp only [Act.put, List.setIfInBounds_toArray, List.set_cons_zero, List.set_cons_succ, List.getElem_toArray, List.getElem_cons_succ, List.getElem_cons_zero]
              refine wpAnyH_take (i := 13) (v := mv) rfl (by kernel_rfl) (by kernel_rfl) (by kernel_rfl) (fun _ _ _ h => h) (Or.inl ⟨by rfl, by intro w hSw; have tq := below_kept hSw.1 hmv; clear hHeld hSw; go_simp⟩) (by assumption) ?_
              simp only [Act.put, List.setIfInBounds_toArray, List.set_cons_zero, List.set_cons_succ, List.getElem_toArray, List.getElem_cons_succ, List.getElem_cons_zero]
              refine wpAnyH_take (i := 14) (v := mv) rfl (by kernel_rfl) (by kernel_rfl) (by kernel_rfl) (fun _ _ _ h => h) (Or.inl ⟨by rfl, by intro w hSw; clear hHeld hSw; go_simp; (try rfl)⟩) (by assumption) ?_
              simp only [Act.put, List.setIfInBounds_toArray, List.set_cons_zero, List.set_cons_succ, List.getElem_toArray, List.getElem_cons_succ, List.getElem_cons_zero]
              clear hHeld
              refine wpAnyH_done (by kernel_rfl) ?_ _
              have RT := Lib.hid (row_drew RT.out)
              have RU := Lib.hid (row_drew RU.out)
              have RP := Lib.hid (row_drew RP.out)
              have RQ := Lib.hid (row_drew RQ.out)
              have HBW := Lib.hid HBW.out.drew
              have hTl : wr.heap.size + 1 + 1 < wB.drew.heap.size := row_lt RU.out
              clear ce0 tb RE
              generalize hgen : wB.drew = wD at *
              clear hgen
              go_wp2_with ((with_reducible refine wpList_load_sub rfl 27 (.tmp 87) rfl wg.heap.size 0 rfl x.cells _ (range_pair0 RP.out) Try.underlying27 rfl HIX.out ?_))
              refine (CON.out _ (HMI.out.below HBW.out)).mono ?_
              rintro e w1 ⟨v2, rfl, hO, hb1⟩
              have RT1 := Lib.hid (row_below hb1 RT.out)
              have RU1 := Lib.hid (row_below hb1 RU.out)
              have RQ1 := Lib.hid (row_below hb1 RQ.out)
              have HB1 := Lib.hid (HBW.out.trans (hb1.mono HBW.out.size))
              have hz1 : wr.heap.size + 1 + 1 < w1.heap.size := row_lt RU1.out
              have RT2 := Lib.hid (show (w1.setRow (wr.heap.size + 1) k2.cells).heap[wr.heap.size + 1]? = some (.cells k2.cells 27) from setRow_heap _ _ _ _ _ _ RT1.out)
              have RU2 := Lib.hid (show (w1.setRow (wr.heap.size + 1) k2.cells).heap[wr.heap.size + 1 + 1]? = some (.cells #[.int .u8 0, .int .u8 0, .int .u8 0, .int .u8 0, .int .u8 0, .int .u8 0, .int .u8 0, .int .u8 0, .int .u8 0, .int .u8 0, .int .u8 0, .int .u8 0, .int .u8 0, .int .i64 0, .int .i64 0, .int .i64 0, .int .i64 0] 27) from (setRow_other _ _ _ _ (by omega)).trans RU1.out)
              have RQ2 := Lib.hid (show (w1.setRow (wr.heap.size + 1) k2.cells).heap[wg.heap.size + 1]? = some (.cells (pairCells x y) 28) from (setRow_other _ _ _ _ (by omega)).trans RQ1.out)
              have HB2 := Lib.hid (show Below wr.heap.size wr (w1.setRow (wr.heap.size + 1) k2.cells) from below_setRow' HB1.out (Nat.le_succ _) _)
              have LO2 := Lib.hid (show OutAt (w1.setRow (wr.heap.size + 1) k2.cells) (wr.heap.size + 3) v2 ms2 from (hO.setRow _ (by omega) _).mono (by omega))
              have hz2 : wr.heap.size + 1 + 1 < (w1.setRow (wr.heap.size + 1) k2.cells).heap.size := row_lt RU2.out
              clear hO hb1
              go_wp2_with (first
                | ((with_reducible refine wpList_store_rowTo rfl 27 (.tmp 18) (.tmp 92) rfl rfl (wr.heap.size + 1) k2.cells ?_ ?_ 27 (#[.int .u8 0, .int .u8 0, .int .u8 0, .int .u8 0, .int .u8 0, .int .u8 0, .int .u8 0, .int .u8 0, .int .u8 0, .int .u8 0, .int .u8 0, .int .u8 0, .int .u8 0, .int .i64 0, .int .i64 0, .int .i64 0, .int .i64 0]) RT1.out HI2.out rfl (one_cells _) ?_); (as_aux_lemma => kernel_rfl); (as_aux_lemma => kernel_rfl))
                | ((with_reducible refine wpList_load_sub rfl 27 (.tmp 97) rfl (wg.heap.size + 1) 0 rfl x.cells _ (range_pair0 RQ2.out) Try.underlying27 rfl HIX.out ?_)))
              refine (COR.out _ (HMI.out.below HB2.out)).mono ?_
              rintro e w2 ⟨v3, rfl, hO, hb2⟩
              have RT3 := Lib.hid (row_below hb2 RT2.out)
              have RU3 := Lib.hid (row_below hb2 RU2.out)
              have HB3 := Lib.hid (HB2.out.trans (hb2.mono HB2.out.size))
              have LO3 := Lib.hid (LO2.out.below hb2)
              have hz3 : wr.heap.size + 1 + 1 < w2.heap.size := row_lt RU3.out
              have LR3 := Lib.hid (show OutAt (w2.setRow (wr.heap.size + 1 + 1) k2.cells) (wr.heap.size + 3) v3 ms2 from (hO.setRow _ (by omega) _).mono (by omega))
              clear hO hb2
              go_wp2_with ((with_reducible refine wpList_store_rowTo rfl 27 (.tmp 19) (.tmp 102) rfl rfl (wr.heap.size + 1 + 1) k2.cells ?_ ?_ 27 (#[.int .u8 0, .int .u8 0, .int .u8 0, .int .u8 0, .int .u8 0, .int .u8 0, .int .u8 0, .int .u8 0, .int .u8 0, .int .u8 0, .int .u8 0, .int .u8 0, .int .u8 0, .int .i64 0, .int .i64 0, .int .i64 0, .int .i64 0]) RU3.out HI2.out rfl (one_cells _) ?_); (as_aux_lemma => kernel_rfl); (as_aux_lemma => kernel_rfl))
              go_meet
              case rel => exact ⟨k2, ms2, er, _, _, rfl, rfl, rfl, rfl, HWF.out, HF.out.2.1, HF.out.2.2, (setRow_other _ _ _ _ (by omega)).trans RT3.out, setRow_heap _ _ _ _ _ _ RU3.out, below_setRow' HB3.out (by omega) _, LO3.out.setRow _ (by omega) _, LR3.out⟩
          case rest =>
            as_aux_lemma =>
              obtain ⟨k2, ms2, er, v2, v3, rfl, rfl, rfl, rfl, hwf, hf2, hf3, rT, rU, hbx, lx, ly⟩ := hcut
              have TC := Lib.hid (T.out.next hbx)
              have CT := Lib.hid rT
              have CU := Lib.hid rU
              have LX := Lib.hid lx
              have LXR := Lib.hid (lx.read hf2 (Nat.le_trans hf3 (by unfold maxLen; decide)))
              have LYR := Lib.hid (ly.read hf2 (Nat.le_trans hf3 (by unfold maxLen; decide)))
              have hz1 : wg.heap.size + 1 + 1 < wr.heap.size := row_lt T.out.ro
              have HI2 := Lib.hid (link_info2 k2)
              have HEQ := eql_self k2 hwf
              have HWF := Lib.hid hwf
              have HF2 := Lib.hid hf2
              clear rT rU lx ly RE RT RU HBW T tx hTl hwf hf2
              go_wp2_with (first
                | (with_reducible refine wpList_load_row rfl 27 (.tmp 18) rfl (wr.heap.size + 1) rfl 27 k2.cells (0, 0) _ CT.out Try.underlying27 rfl HI2.out ?_)
                | (with_reducible refine wpList_load_row rfl 27 (.tmp 19) rfl (wr.heap.size + 1 + 1) rfl 27 k2.cells (0, 0) _ CU.out Try.underlying27 rfl HI2.out ?_))
              refine (same_yes _ _ _ _ rfl _ LXR.out LYR.out).mono ?_
              rintro e we ⟨rfl, hb⟩
              have TC := Lib.hid (TC.out.next hb)
              have CT := Lib.hid (row_below hb CT.out)
              have CU := Lib.hid (row_below hb CU.out)
              have LX := Lib.hid (LX.out.below hb)
              have hbx := below_step hbx hb
              clear hb LXR LYR HEQ
              by_cases he : er = 0
              · subst he
                have HTH := Lib.hid (show we.drew.there wg.heap.size 0 k2.cells.size from there_of_row (row_drew TC.out.rp) 0 17 (by rw [pair_size]; decide))
                have RQX := Lib.hid (show (we.drew.setCells wg.heap.size 0 k2.cells.toList).heap[wg.heap.size + 1]? = some (.cells (pairCells x y) 28) from (heap_setCells_far _ _ _ _ _ (by omega)).trans (row_drew TC.out.rq))
                have HTH2 := Lib.hid (show (we.drew.setCells wg.heap.size 0 k2.cells.toList).there (wg.heap.size + 1) 0 k2.cells.size from there_of_row RQX.out 0 17 (by rw [pair_size]; decide))
                go_upto_region 33 with fail
                refine wp_region_held_drew (S := fun w' => w'.heap[wr.heap.size + 1]? = some (.cells k2.cells 27) ∧ w'.heap[wr.heap.size + 1 + 1]? = some (.cells k2.cells 27)) (by kernel_rfl) (⟨CT.out, CU.out⟩) (fun hHeld => ?_)
                refine wpAnyH_take (i := 0) (v := .int .i64 0) rfl (by kernel_rfl) (by kernel_rfl) (by kernel_rfl) (fun _ _ _ h => h) (Or.inl ⟨by rfl, by intro w hSw; clear hHeld hSw; go_simp; (try rfl)⟩) (by assumption) ?_
                simp only [Act.put, List.setIfInBounds_toArray, List.set_cons_zero, List.set_cons_succ, List.getElem_toArray, List.getElem_cons_succ, List.getElem_cons_zero]
                refine wpAnyH_take (i := 1) (v := .int .i64 0) rfl (by kernel_rfl) (by kernel_rfl) (by kernel_rfl) (fun _ _ _ h => h) (Or.inl ⟨by rfl, by intro w hSw; clear hHeld hSw; go_simp; (try rfl)⟩) (by assumption) ?_
                simp only [Act.put, List.setIfInBounds_toArray, List.set_cons_zero, List.set_cons_succ, List.getElem_toArray, List.getElem_cons_succ, List.getElem_cons_zero]
                refine wpAnyH_take (i := 2) (v := .agg k2.cells) rfl (by kernel_rfl) (by kernel_rfl) (by kernel_rfl) (fun _ _ _ h => h) (yields_sub (by rfl) 27 _ rfl (wr.heap.size + 1) 0 (by rfl) k2.cells _ (fun w' h' => range_row h'.1) Try.underlying27 rfl HI2.out) (by assumption) ?_
                simp only [Act.put, List.setIfInBounds_toArray, List.set_cons_zero, List.set_cons_succ, List.getElem_toArray, List.getElem_cons_succ, List.getElem_cons_zero]
                refine wpAnyH_take (i := 3) (v := .agg k2.cells) rfl (by kernel_rfl) (by kernel_rfl) (by kernel_rfl) (fun _ _ _ h => h) (yields_sub (by rfl) 27 _ rfl (wr.heap.size + 1 + 1) 0 (by rfl) k2.cells _ (fun w' h' => range_row h'.2) Try.underlying27 rfl HI2.out) (by assumption) ?_
                simp only [Act.put, List.setIfInBounds_toArray, List.set_cons_zero, List.set_cons_succ, List.getElem_toArray, List.getElem_cons_succ, List.getElem_cons_zero]
                refine wpAnyH_take (i := 4) (v := .pointer (some ⟨wg.heap.size, 0, none⟩)) rfl (by kernel_rfl) (by kernel_rfl) (by kernel_rfl) (fun _ _ _ h => h) (Or.inl ⟨by rfl, by intro w hSw; clear hHeld hSw; go_simp; (try rfl)⟩) (by assumption) ?_
                simp only [Act.put, List.setIfInBounds_toArray, List.set_cons_zero, List.set_cons_succ, List.getElem_toArray, List.getElem_cons_succ, List.getElem_cons_zero]
                refine wpAnyH_ready (rs := [5]) (by kernel_rfl) (by simp) ?_
                refine AllReadyH.cons (i := 5) (rs := []) rfl ?_ AllReadyH.nil
                intro Kq hKq
                simp only [List.getElem_toArray, List.getElem_cons_succ, List.getElem_cons_zero]
                rw [if_pos (by rfl)]
                refine wp_store_mid 27 (.tmp 199) (.tmp 197) (by rfl) wg.heap.size 0 k2.cells (by as_aux_lemma => kernel_rfl) (by as_aux_lemma => kernel_rfl) HTH.out HI2.out (one_cells _) ?_
                refine hKq.out _ _ (⟨(heap_setCells_far _ _ _ _ _ (by omega)).trans (row_drew CT.out), (heap_setCells_far _ _ _ _ _ (by omega)).trans (row_drew CU.out)⟩) (fun hHeld2 => ?_)
                clear hKq Kq hHeld
                have hHeld := hHeld2
                clear hHeld2
                simp only [Act.put, List.setIfInBounds_toArray, List.set_cons_zero, List.set_cons_succ]
                obtain ⟨wy, hwy⟩ : ∃ q, q = (we.drew.setCells wg.heap.size 0 k2.cells.toList) := ⟨_, rfl⟩
                rw [← hwy] at HTH2 hHeld
                rw [← hwy]
                refine wpAnyH_take (i := 6) (v := .pointer (some ⟨wg.heap.size + 1, 0, none⟩)) rfl (by kernel_rfl) (by kernel_rfl) (by kernel_rfl) (fun _ _ _ h => h) (Or.inl ⟨by rfl, by intro w hSw; clear hHeld hSw; go_simp; (try rfl)⟩) (by assumption) ?_
                simp only [Act.put, List.setIfInBounds_toArray, List.set_cons_zero, List.set_cons_succ, List.getElem_toArray, List.getElem_cons_succ, List.getElem_cons_zero]
                refine wpAnyH_ready (rs := [7]) (by kernel_rfl) (by simp) ?_
                refine AllReadyH.cons (i := 7) (rs := []) rfl ?_ AllReadyH.nil
                intro Kq hKq
                simp only [List.getElem_toArray, List.getElem_cons_succ, List.getElem_cons_zero]
                rw [if_pos (by rfl)]
                refine wp_store_mid 27 (.tmp 200) (.tmp 198) (by rfl) (wg.heap.size + 1) 0 k2.cells (by as_aux_lemma => kernel_rfl) (by as_aux_lemma => kernel_rfl) HTH2.out HI2.out (one_cells _) ?_
                refine hKq.out _ _ (⟨(heap_setCells_far _ _ _ _ _ (by omega)).trans hHeld.1, (heap_setCells_far _ _ _ _ _ (by omega)).trans hHeld.2⟩) (fun hHeld2 => ?_)
                clear hKq Kq hHeld
                have hHeld := hHeld2
                clear hHeld2
                simp only [Act.put, List.setIfInBounds_toArray, List.set_cons_zero, List.set_cons_succ]
                clear hHeld
                refine wpAnyH_done (by kernel_rfl) ?_ _
                obtain ⟨wd, hwd⟩ : ∃ q, q = wy.setCells (wg.heap.size + 1) 0 k2.cells.toList := ⟨_, rfl⟩
                have TD := Lib.hid (show Su wg wd k2 y s0 s1 v0 (.slice aoX s1.length cX) from by rw [hwd, hwy]; exact (TC.out.next (Below.refl _ _).drew).links0 k2)
                have LY := Lib.hid (show OutAt wd (wg.heap.size + 3) u20 ms2 from by rw [hwd, hwy]; exact LX.out.far2 (Nat.add_le_add_right (Nat.le_of_lt (Nat.lt_of_le_of_lt (Nat.le_add_right wg.heap.size 2) hz1)) 3))
                rw [← hwd]
                clear TC CT CU LX HTH HTH2 RQX hbx hwd hwy
                obtain ⟨xsO, hoO, hxO⟩ := TD.out.l0
                obtain ⟨nws, hrd, hnx⟩ := LY.out.reads
                have HOO := Lib.hid hoO
                have HXO := Lib.hid hxO
                have HRD := Lib.hid hrd
                have HNX := Lib.hid hnx
                have hxl : xsO.length = s0.length := by have := hoO.1; omega
                clear hoO hxO hrd hnx LY
                have q0 : wd.cell? ⟨wg.heap.size + 1 + 1, 0, none⟩ = some v0 := (cell_of_row _ _ _ _ _ _ TD.out.ro).trans rfl
                have q1 : wd.cell? ⟨wg.heap.size + 1 + 1, 1, none⟩ = some (.slice aoX s1.length cX) := (cell_of_row _ _ _ _ _ _ TD.out.ro).trans rfl
                have hz2 : wg.heap.size + 1 + 1 < wd.heap.size := row_lt TD.out.ro
                have HBK := Lib.hid (fun g e => (TD.out.l0.block g e).2.1)
                go_wp2_with (refine wpList_append_list rfl (some 206) rfl (.tmp 204) (.tmp 205) rfl (wg.heap.size + 3) v0 s0.length xsO rfl HOO.out u20 ms2.length nws rfl HRD.out (app_le hl0 hlt hn hf3) hz2 ?_; intro v5 w5 ho5 hg5 ha5; obtain ⟨ao5, n5, c5, e5⟩ := row_slice ho5; subst e5; have r5 := (hg5.block (wg.heap.size + 1 + 1) hz2 (fun e => no3 (HBK.out _ e.symm))).trans TD.out.ro; have q5 : w5.cell? ⟨wg.heap.size + 1 + 1, 0, none⟩ = some v0 := (cell_of_row _ _ _ _ _ _ r5).trans rfl; have f5 : ∀ o, w5.frozen? ⟨wg.heap.size + 1 + 1, o, none⟩ = false := fun o => frozen_of_row _ _ _ _ _ r5; have TE := Lib.hid (TD.out.sent0 hxl HXO.out HNX.out ho5 hg5 ha5); clear ho5 hg5 ha5 r5)
                go_roundg (n - (k + 1))
                case measure => exact meas hlt
                case rel => exact ⟨k + 1, N + wt, hlt, rfl, rfl, rfl, k2, y, s0 ++ ms2, s1, (.slice ao5 n5 c5), (.slice aoX s1.length cX), HWF.out, WY.out, Msgs.app M0.out HF2.out, M1.out, app_len hl0 hf3, le_more hl1, time_more hN0 hN1 gw0 gw1, TE.out⟩
              · have hez : (er == 0) = false := by simpa using he
                go_wp2_with fail
                go_roundg (n - (k + 1))
                case measure => exact meas hlt
                case rel => exact ⟨k + 1, N + wt, hlt, rfl, rfl, rfl, x, y, s0, s1, v0, (.slice aoX s1.length cX), WX.out, WY.out, M0.out, M1.out, le_more hl0, le_more hl1, time_more hN0 hN1 gw0 gw1, TC.out⟩
        · go_upto_block 2 with fail
          obtain ⟨aoX, cX, eX⟩ := out_form T.out.l0
          subst eX
          have HIX := Lib.hid (link_info2 y)
          obtain ⟨re, rt, ru⟩ := fr_rows3 wr (.cells #[.int .u8 kd, .int .u8 tt, .int .i64 wh, .int .i64 wt] 56) (.cells #[.int .u8 0, .int .u8 0, .int .u8 0, .int .u8 0, .int .u8 0, .int .u8 0, .int .u8 0, .int .u8 0, .int .u8 0, .int .u8 0, .int .u8 0, .int .u8 0, .int .u8 0, .int .i64 0, .int .i64 0, .int .i64 0, .int .i64 0] 27) (.cells #[.int .u8 0, .int .u8 0, .int .u8 0, .int .u8 0, .int .u8 0, .int .u8 0, .int .u8 0, .int .u8 0, .int .u8 0, .int .u8 0, .int .u8 0, .int .u8 0, .int .u8 0, .int .i64 0, .int .i64 0, .int .i64 0, .int .i64 0] 27)
          have RE := Lib.hid re
          have RT := Lib.hid rt
          have RU := Lib.hid ru
          have HBW := Lib.hid (show Below wr.heap.size wr (((wr.alloc (.cells #[.int .u8 kd, .int .u8 tt, .int .i64 wh, .int .i64 wt] 56)).alloc (.cells #[.int .u8 0, .int .u8 0, .int .u8 0, .int .u8 0, .int .u8 0, .int .u8 0, .int .u8 0, .int .u8 0, .int .u8 0, .int .u8 0, .int .u8 0, .int .u8 0, .int .u8 0, .int .i64 0, .int .i64 0, .int .i64 0, .int .i64 0] 27)).alloc (.cells #[.int .u8 0, .int .u8 0, .int .u8 0, .int .u8 0, .int .u8 0, .int .u8 0, .int .u8 0, .int .u8 0, .int .u8 0, .int .u8 0, .int .u8 0, .int .u8 0, .int .u8 0, .int .i64 0, .int .i64 0, .int .i64 0, .int .i64 0] 27)) from below_more (below_more (below_more (Below.refl _ _) _) _) _)
          clear re rt ru
          generalize (((wr.alloc (.cells #[.int .u8 kd, .int .u8 tt, .int .i64 wh, .int .i64 wt] 56)).alloc (.cells #[.int .u8 0, .int .u8 0, .int .u8 0, .int .u8 0, .int .u8 0, .int .u8 0, .int .u8 0, .int .u8 0, .int .u8 0, .int .u8 0, .int .u8 0, .int .u8 0, .int .u8 0, .int .i64 0, .int .i64 0, .int .i64 0, .int .i64 0] 27)).alloc (.cells #[.int .u8 0, .int .u8 0, .int .u8 0, .int .u8 0, .int .u8 0, .int .u8 0, .int .u8 0, .int .u8 0, .int .u8 0, .int .u8 0, .int .u8 0, .int .u8 0, .int .u8 0, .int .i64 0, .int .i64 0, .int .i64 0, .int .i64 0] 27)) = wB at *
          have hTl : wr.heap.size + 1 + 1 < wB.heap.size := row_lt RU.out
          have hN3 : N + wt ≤ 1000000000 := by omega
          have hN4 : 0 ≤ N + wt := by omega
          have tx : wr.cell? ⟨wg.heap.size + 1 + 1, 0, none⟩ = some (.slice aoX s0.length cX) := (cell_of_row _ _ _ _ _ _ T.out.ro).trans rfl
          go_cut [20, 21, 22, 23] (fun t20 t21 t22 t23 wx => ∃ (k2 : Lk) (ms2 : List (List Int)) (er : Int) (v2 v3 : Value), t20 = v2 ∧ t21 = v3 ∧ t22 = .int .i64 er ∧ t23 = .int .i64 er ∧ k2.Wf ∧ (∀ m ∈ ms2, MsgOk m) ∧ ms2.length ≤ 2 ∧ wx.heap[wr.heap.size + 1]? = some (.cells k2.cells 27) ∧ wx.heap[wr.heap.size + 1 + 1]? = some (.cells k2.cells 27) ∧ Below wr.heap.size wr wx ∧ OutAt wx (wr.heap.size + 3) v2 ms2 ∧ OutAt wx (wr.heap.size + 3) v3 ms2)
          case first =>
            as_aux_lemma =>
              have ce0 : wB.cell? ⟨wr.heap.size, 0, none⟩ = some (.int .u8 kd) := (cell_of_row _ _ _ _ _ _ RE.out).trans rfl
              have tb : wB.cell? ⟨wg.heap.size + 1 + 1, 0, none⟩ = some (.slice aoX s0.length cX) := below_kept HBW.out tx
              have RP := Lib.hid (row_below HBW.out T.out.rp)
              have RQ := Lib.hid (row_below HBW.out T.out.rq)
              have hgz : wg.heap.size + 1 + 1 < wr.heap.size := row_lt T.out.ro
              by_cases hk0 : kd = 0
              · subst hk0
                obtain ⟨⟨k2, ms2, er⟩, hr⟩ : ∃ r : Res, pStart y (N + wt) = r := ⟨_, rfl⟩
                have hfine : Res.Fine (k2, ms2, er) := hr ▸ fine_start WY.out.toBy (N + wt)
                have hwf : k2.Wf := by have h := wf_start WY.out.toBy (N + wt); rw [hr] at h; exact h
                have CON := Lib.hid (fun W => ret_of hr (start_any y WY.out.toBy (N + wt) W))
                have COR := Lib.hid (fun W => ret_of hr (rstart_any y WY.out.toBy WY.out.st.1 (N + wt) W))
                have HI2 := Lib.hid (link_info2 k2)
                have HF := Lib.hid hfine
                have HWF := Lib.hid hwf
                clear hr hfine hwf
                go_wp2_with ((with_reducible refine wpList_load_sub rfl 27 (.tmp 111) rfl wg.heap.size 17 rfl y.cells _ (range_pair1 RP.out) Try.underlying27 rfl HIX.out ?_))
                refine (CON.out _).mono ?_
                rintro e w1 ⟨v2, rfl, hO, hb1⟩
                have RT1 := Lib.hid (row_below hb1 RT.out)
                have RU1 := Lib.hid (row_below hb1 RU.out)
                have RQ1 := Lib.hid (row_below hb1 RQ.out)
                have HB1 := Lib.hid (HBW.out.trans (hb1.mono HBW.out.size))
                have hz1 : wr.heap.size + 1 + 1 < w1.heap.size := row_lt RU1.out
                have RT2 := Lib.hid (show (w1.setRow (wr.heap.size + 1) k2.cells).heap[wr.heap.size + 1]? = some (.cells k2.cells 27) from setRow_heap _ _ _ _ _ _ RT1.out)
                have RU2 := Lib.hid (show (w1.setRow (wr.heap.size + 1) k2.cells).heap[wr.heap.size + 1 + 1]? = some (.cells #[.int .u8 0, .int .u8 0, .int .u8 0, .int .u8 0, .int .u8 0, .int .u8 0, .int .u8 0, .int .u8 0, .int .u8 0, .int .u8 0, .int .u8 0, .int .u8 0, .int .u8 0, .int .i64 0, .int .i64 0, .int .i64 0, .int .i64 0] 27) from (setRow_other _ _ _ _ (by omega)).trans RU1.out)
                have RQ2 := Lib.hid (show (w1.setRow (wr.heap.size + 1) k2.cells).heap[wg.heap.size + 1]? = some (.cells (pairCells x y) 28) from (setRow_other _ _ _ _ (by omega)).trans RQ1.out)
                have HB2 := Lib.hid (show Below wr.heap.size wr (w1.setRow (wr.heap.size + 1) k2.cells) from below_setRow' HB1.out (Nat.le_succ _) _)
                have LO2 := Lib.hid (show OutAt (w1.setRow (wr.heap.size + 1) k2.cells) (wr.heap.size + 3) v2 ms2 from (hO.setRow _ (by omega) _).mono (by omega))
                have hz2 : wr.heap.size + 1 + 1 < (w1.setRow (wr.heap.size + 1) k2.cells).heap.size := row_lt RU2.out
                clear hO hb1
                go_wp2_with (first
                  | ((with_reducible refine wpList_store_rowTo rfl 27 (.tmp 18) (.tmp 115) rfl rfl (wr.heap.size + 1) k2.cells ?_ ?_ 27 (#[.int .u8 0, .int .u8 0, .int .u8 0, .int .u8 0, .int .u8 0, .int .u8 0, .int .u8 0, .int .u8 0, .int .u8 0, .int .u8 0, .int .u8 0, .int .u8 0, .int .u8 0, .int .i64 0, .int .i64 0, .int .i64 0, .int .i64 0]) RT1.out HI2.out rfl (one_cells _) ?_); (as_aux_lemma => kernel_rfl); (as_aux_lemma => kernel_rfl))
                  | ((with_reducible refine wpList_load_sub rfl 27 (.tmp 120) rfl (wg.heap.size + 1) 17 rfl y.cells _ (range_pair1 RQ2.out) Try.underlying27 rfl HIX.out ?_)))
                refine (COR.out _).mono ?_
                rintro e w2 ⟨v3, rfl, hO, hb2⟩
                have RT3 := Lib.hid (row_below hb2 RT2.out)
                have RU3 := Lib.hid (row_below hb2 RU2.out)
                have HB3 := Lib.hid (HB2.out.trans (hb2.mono HB2.out.size))
                have LO3 := Lib.hid (LO2.out.below hb2)
                have hz3 : wr.heap.size + 1 + 1 < w2.heap.size := row_lt RU3.out
                have LR3 := Lib.hid (show OutAt (w2.setRow (wr.heap.size + 1 + 1) k2.cells) (wr.heap.size + 3) v3 ms2 from (hO.setRow _ (by omega) _).mono (by omega))
                clear hO hb2
                go_wp2_with ((with_reducible refine wpList_store_rowTo rfl 27 (.tmp 19) (.tmp 124) rfl rfl (wr.heap.size + 1 + 1) k2.cells ?_ ?_ 27 (#[.int .u8 0, .int .u8 0, .int .u8 0, .int .u8 0, .int .u8 0, .int .u8 0, .int .u8 0, .int .u8 0, .int .u8 0, .int .u8 0, .int .u8 0, .int .u8 0, .int .u8 0, .int .i64 0, .int .i64 0, .int .i64 0, .int .i64 0]) RU3.out HI2.out rfl (one_cells _) ?_); (as_aux_lemma => kernel_rfl); (as_aux_lemma => kernel_rfl))
                go_meet
                case rel => exact ⟨k2, ms2, er, _, _, rfl, rfl, rfl, rfl, HWF.out, HF.out.2.1, HF.out.2.2, (setRow_other _ _ _ _ (by omega)).trans RT3.out, setRow_heap _ _ _ _ _ _ RU3.out, below_setRow' HB3.out (by omega) _, LO3.out.setRow _ (by omega) _, LR3.out⟩
              have hk0' : (kd == 0) = false := by simpa using hk0
              by_cases hk1 : kd = 1
              · subst hk1
                obtain ⟨⟨k2, ms2, er⟩, hr⟩ : ∃ r : Res, pClose y (N + wt) = r := ⟨_, rfl⟩
                have hfine : Res.Fine (k2, ms2, er) := hr ▸ fine_close WY.out.toBy (N + wt)
                have hwf : k2.Wf := by have h := wf_close WY.out.toBy (N + wt); rw [hr] at h; exact h
                have CON := Lib.hid (fun W => ret_of hr (close_any y WY.out.toBy (N + wt) W))
                have COR := Lib.hid (fun W => ret_of hr (rclose_any y WY.out.toBy WY.out.st.1 (N + wt) W))
                have HI2 := Lib.hid (link_info2 k2)
                have HF := Lib.hid hfine
                have HWF := Lib.hid hwf
                clear hr hfine hwf
                go_wp2_with ((with_reducible refine wpList_load_sub rfl 27 (.tmp 133) rfl wg.heap.size 17 rfl y.cells _ (range_pair1 RP.out) Try.underlying27 rfl HIX.out ?_))
                refine (CON.out _).mono ?_
                rintro e w1 ⟨v2, rfl, hO, hb1⟩
                have RT1 := Lib.hid (row_below hb1 RT.out)
                have RU1 := Lib.hid (row_below hb1 RU.out)
                have RQ1 := Lib.hid (row_below hb1 RQ.out)
                have HB1 := Lib.hid (HBW.out.trans (hb1.mono HBW.out.size))
                have hz1 : wr.heap.size + 1 + 1 < w1.heap.size := row_lt RU1.out
                have RT2 := Lib.hid (show (w1.setRow (wr.heap.size + 1) k2.cells).heap[wr.heap.size + 1]? = some (.cells k2.cells 27) from setRow_heap _ _ _ _ _ _ RT1.out)
                have RU2 := Lib.hid (show (w1.setRow (wr.heap.size + 1) k2.cells).heap[wr.heap.size + 1 + 1]? = some (.cells #[.int .u8 0, .int .u8 0, .int .u8 0, .int .u8 0, .int .u8 0, .int .u8 0, .int .u8 0, .int .u8 0, .int .u8 0, .int .u8 0, .int .u8 0, .int .u8 0, .int .u8 0, .int .i64 0, .int .i64 0, .int .i64 0, .int .i64 0] 27) from (setRow_other _ _ _ _ (by omega)).trans RU1.out)
                have RQ2 := Lib.hid (show (w1.setRow (wr.heap.size + 1) k2.cells).heap[wg.heap.size + 1]? = some (.cells (pairCells x y) 28) from (setRow_other _ _ _ _ (by omega)).trans RQ1.out)
                have HB2 := Lib.hid (show Below wr.heap.size wr (w1.setRow (wr.heap.size + 1) k2.cells) from below_setRow' HB1.out (Nat.le_succ _) _)
                have LO2 := Lib.hid (show OutAt (w1.setRow (wr.heap.size + 1) k2.cells) (wr.heap.size + 3) v2 ms2 from (hO.setRow _ (by omega) _).mono (by omega))
                have hz2 : wr.heap.size + 1 + 1 < (w1.setRow (wr.heap.size + 1) k2.cells).heap.size := row_lt RU2.out
                clear hO hb1
                go_wp2_with (first
                  | ((with_reducible refine wpList_store_rowTo rfl 27 (.tmp 18) (.tmp 137) rfl rfl (wr.heap.size + 1) k2.cells ?_ ?_ 27 (#[.int .u8 0, .int .u8 0, .int .u8 0, .int .u8 0, .int .u8 0, .int .u8 0, .int .u8 0, .int .u8 0, .int .u8 0, .int .u8 0, .int .u8 0, .int .u8 0, .int .u8 0, .int .i64 0, .int .i64 0, .int .i64 0, .int .i64 0]) RT1.out HI2.out rfl (one_cells _) ?_); (as_aux_lemma => kernel_rfl); (as_aux_lemma => kernel_rfl))
                  | ((with_reducible refine wpList_load_sub rfl 27 (.tmp 142) rfl (wg.heap.size + 1) 17 rfl y.cells _ (range_pair1 RQ2.out) Try.underlying27 rfl HIX.out ?_)))
                refine (COR.out _).mono ?_
                rintro e w2 ⟨v3, rfl, hO, hb2⟩
                have RT3 := Lib.hid (row_below hb2 RT2.out)
                have RU3 := Lib.hid (row_below hb2 RU2.out)
                have HB3 := Lib.hid (HB2.out.trans (hb2.mono HB2.out.size))
                have LO3 := Lib.hid (LO2.out.below hb2)
                have hz3 : wr.heap.size + 1 + 1 < w2.heap.size := row_lt RU3.out
                have LR3 := Lib.hid (show OutAt (w2.setRow (wr.heap.size + 1 + 1) k2.cells) (wr.heap.size + 3) v3 ms2 from (hO.setRow _ (by omega) _).mono (by omega))
                clear hO hb2
                go_wp2_with ((with_reducible refine wpList_store_rowTo rfl 27 (.tmp 19) (.tmp 146) rfl rfl (wr.heap.size + 1 + 1) k2.cells ?_ ?_ 27 (#[.int .u8 0, .int .u8 0, .int .u8 0, .int .u8 0, .int .u8 0, .int .u8 0, .int .u8 0, .int .u8 0, .int .u8 0, .int .u8 0, .int .u8 0, .int .u8 0, .int .u8 0, .int .i64 0, .int .i64 0, .int .i64 0, .int .i64 0]) RU3.out HI2.out rfl (one_cells _) ?_); (as_aux_lemma => kernel_rfl); (as_aux_lemma => kernel_rfl))
                go_meet
                case rel => exact ⟨k2, ms2, er, _, _, rfl, rfl, rfl, rfl, HWF.out, HF.out.2.1, HF.out.2.2, (setRow_other _ _ _ _ (by omega)).trans RT3.out, setRow_heap _ _ _ _ _ _ RU3.out, below_setRow' HB3.out (by omega) _, LO3.out.setRow _ (by omega) _, LR3.out⟩
              have hk1' : (kd == 1) = false := by simpa using hk1
              by_cases hk2 : kd = 2
              · subst hk2
                obtain ⟨⟨k2, ms2, er⟩, hr⟩ : ∃ r : Res, pTick y (N + wt) = r := ⟨_, rfl⟩
                have hfine : Res.Fine (k2, ms2, er) := hr ▸ fine_tick WY.out.toBy (N + wt)
                have hwf : k2.Wf := by have h := wf_tick WY.out.toBy (N + wt); rw [hr] at h; exact h
                have CON := Lib.hid (fun W => ret_of hr (tick_any y WY.out.toBy (N + wt) W))
                have COR := Lib.hid (fun W => ret_of hr (rtick_any y WY.out.toBy WY.out.st.1 (N + wt) W))
                have HI2 := Lib.hid (link_info2 k2)
                have HF := Lib.hid hfine
                have HWF := Lib.hid hwf
                clear hr hfine hwf
                go_wp2_with ((with_reducible refine wpList_load_sub rfl 27 (.tmp 163) rfl wg.heap.size 17 rfl y.cells _ (range_pair1 RP.out) Try.underlying27 rfl HIX.out ?_))
                refine (CON.out _).mono ?_
                rintro e w1 ⟨v2, rfl, hO, hb1⟩
                have RT1 := Lib.hid (row_below hb1 RT.out)
                have RU1 := Lib.hid (row_below hb1 RU.out)
                have RQ1 := Lib.hid (row_below hb1 RQ.out)
                have HB1 := Lib.hid (HBW.out.trans (hb1.mono HBW.out.size))
                have hz1 : wr.heap.size + 1 + 1 < w1.heap.size := row_lt RU1.out
                have RT2 := Lib.hid (show (w1.setRow (wr.heap.size + 1) k2.cells).heap[wr.heap.size + 1]? = some (.cells k2.cells 27) from setRow_heap _ _ _ _ _ _ RT1.out)
                have RU2 := Lib.hid (show (w1.setRow (wr.heap.size + 1) k2.cells).heap[wr.heap.size + 1 + 1]? = some (.cells #[.int .u8 0, .int .u8 0, .int .u8 0, .int .u8 0, .int .u8 0, .int .u8 0, .int .u8 0, .int .u8 0, .int .u8 0, .int .u8 0, .int .u8 0, .int .u8 0, .int .u8 0, .int .i64 0, .int .i64 0, .int .i64 0, .int .i64 0] 27) from (setRow_other _ _ _ _ (by omega)).trans RU1.out)
                have RQ2 := Lib.hid (show (w1.setRow (wr.heap.size + 1) k2.cells).heap[wg.heap.size + 1]? = some (.cells (pairCells x y) 28) from (setRow_other _ _ _ _ (by omega)).trans RQ1.out)
                have HB2 := Lib.hid (show Below wr.heap.size wr (w1.setRow (wr.heap.size + 1) k2.cells) from below_setRow' HB1.out (Nat.le_succ _) _)
                have LO2 := Lib.hid (show OutAt (w1.setRow (wr.heap.size + 1) k2.cells) (wr.heap.size + 3) v2 ms2 from (hO.setRow _ (by omega) _).mono (by omega))
                have hz2 : wr.heap.size + 1 + 1 < (w1.setRow (wr.heap.size + 1) k2.cells).heap.size := row_lt RU2.out
                clear hO hb1
                go_wp2_with (first
                  | ((with_reducible refine wpList_store_rowTo rfl 27 (.tmp 18) (.tmp 167) rfl rfl (wr.heap.size + 1) k2.cells ?_ ?_ 27 (#[.int .u8 0, .int .u8 0, .int .u8 0, .int .u8 0, .int .u8 0, .int .u8 0, .int .u8 0, .int .u8 0, .int .u8 0, .int .u8 0, .int .u8 0, .int .u8 0, .int .u8 0, .int .i64 0, .int .i64 0, .int .i64 0, .int .i64 0]) RT1.out HI2.out rfl (one_cells _) ?_); (as_aux_lemma => kernel_rfl); (as_aux_lemma => kernel_rfl))
                  | ((with_reducible refine wpList_load_sub rfl 27 (.tmp 172) rfl (wg.heap.size + 1) 17 rfl y.cells _ (range_pair1 RQ2.out) Try.underlying27 rfl HIX.out ?_)))
                refine (COR.out _).mono ?_
                rintro e w2 ⟨v3, rfl, hO, hb2⟩
                have RT3 := Lib.hid (row_below hb2 RT2.out)
                have RU3 := Lib.hid (row_below hb2 RU2.out)
                have HB3 := Lib.hid (HB2.out.trans (hb2.mono HB2.out.size))
                have LO3 := Lib.hid (LO2.out.below hb2)
                have hz3 : wr.heap.size + 1 + 1 < w2.heap.size := row_lt RU3.out
                have LR3 := Lib.hid (show OutAt (w2.setRow (wr.heap.size + 1 + 1) k2.cells) (wr.heap.size + 3) v3 ms2 from (hO.setRow _ (by omega) _).mono (by omega))
                clear hO hb2
                go_wp2_with ((with_reducible refine wpList_store_rowTo rfl 27 (.tmp 19) (.tmp 176) rfl rfl (wr.heap.size + 1 + 1) k2.cells ?_ ?_ 27 (#[.int .u8 0, .int .u8 0, .int .u8 0, .int .u8 0, .int .u8 0, .int .u8 0, .int .u8 0, .int .u8 0, .int .u8 0, .int .u8 0, .int .u8 0, .int .u8 0, .int .u8 0, .int .i64 0, .int .i64 0, .int .i64 0, .int .i64 0]) RU3.out HI2.out rfl (one_cells _) ?_); (as_aux_lemma => kernel_rfl); (as_aux_lemma => kernel_rfl))
                go_meet
                case rel => exact ⟨k2, ms2, er, _, _, rfl, rfl, rfl, rfl, HWF.out, HF.out.2.1, HF.out.2.2, (setRow_other _ _ _ _ (by omega)).trans RT3.out, setRow_heap _ _ _ _ _ _ RU3.out, below_setRow' HB3.out (by omega) _, LO3.out.setRow _ (by omega) _, LR3.out⟩
              have hk2' : (kd == 2) = false := by simpa using hk2
              by_cases hsz : s0.length = 0
              · have hsz' : ((s0.length : Int) == 0) = true := by simp [hsz]
                obtain ⟨⟨k2, ms2, er⟩, hr⟩ : ∃ r : Res, pTick y (N + wt) = r := ⟨_, rfl⟩
                have hfine : Res.Fine (k2, ms2, er) := hr ▸ fine_tick WY.out.toBy (N + wt)
                have hwf : k2.Wf := by have h := wf_tick WY.out.toBy (N + wt); rw [hr] at h; exact h
                have CON := Lib.hid (fun W => ret_of hr (tick_any y WY.out.toBy (N + wt) W))
                have COR := Lib.hid (fun W => ret_of hr (rtick_any y WY.out.toBy WY.out.st.1 (N + wt) W))
                have HI2 := Lib.hid (link_info2 k2)
                have HF := Lib.hid hfine
                have HWF := Lib.hid hwf
                clear hr hfine hwf
                go_wp2_with ((with_reducible refine wpList_load_sub rfl 27 (.tmp 163) rfl wg.heap.size 17 rfl y.cells _ (range_pair1 RP.out) Try.underlying27 rfl HIX.out ?_))
                refine (CON.out _).mono ?_
                rintro e w1 ⟨v2, rfl, hO, hb1⟩
                have RT1 := Lib.hid (row_below hb1 RT.out)
                have RU1 := Lib.hid (row_below hb1 RU.out)
                have RQ1 := Lib.hid (row_below hb1 RQ.out)
                have HB1 := Lib.hid (HBW.out.trans (hb1.mono HBW.out.size))
                have hz1 : wr.heap.size + 1 + 1 < w1.heap.size := row_lt RU1.out
                have RT2 := Lib.hid (show (w1.setRow (wr.heap.size + 1) k2.cells).heap[wr.heap.size + 1]? = some (.cells k2.cells 27) from setRow_heap _ _ _ _ _ _ RT1.out)
                have RU2 := Lib.hid (show (w1.setRow (wr.heap.size + 1) k2.cells).heap[wr.heap.size + 1 + 1]? = some (.cells #[.int .u8 0, .int .u8 0, .int .u8 0, .int .u8 0, .int .u8 0, .int .u8 0, .int .u8 0, .int .u8 0, .int .u8 0, .int .u8 0, .int .u8 0, .int .u8 0, .int .u8 0, .int .i64 0, .int .i64 0, .int .i64 0, .int .i64 0] 27) from (setRow_other _ _ _ _ (by omega)).trans RU1.out)
                have RQ2 := Lib.hid (show (w1.setRow (wr.heap.size + 1) k2.cells).heap[wg.heap.size + 1]? = some (.cells (pairCells x y) 28) from (setRow_other _ _ _ _ (by omega)).trans RQ1.out)
                have HB2 := Lib.hid (show Below wr.heap.size wr (w1.setRow (wr.heap.size + 1) k2.cells) from below_setRow' HB1.out (Nat.le_succ _) _)
                have LO2 := Lib.hid (show OutAt (w1.setRow (wr.heap.size + 1) k2.cells) (wr.heap.size + 3) v2 ms2 from (hO.setRow _ (by omega) _).mono (by omega))
                have hz2 : wr.heap.size + 1 + 1 < (w1.setRow (wr.heap.size + 1) k2.cells).heap.size := row_lt RU2.out
                clear hO hb1
                go_wp2_with (first
                  | ((with_reducible refine wpList_store_rowTo rfl 27 (.tmp 18) (.tmp 167) rfl rfl (wr.heap.size + 1) k2.cells ?_ ?_ 27 (#[.int .u8 0, .int .u8 0, .int .u8 0, .int .u8 0, .int .u8 0, .int .u8 0, .int .u8 0, .int .u8 0, .int .u8 0, .int .u8 0, .int .u8 0, .int .u8 0, .int .u8 0, .int .i64 0, .int .i64 0, .int .i64 0, .int .i64 0]) RT1.out HI2.out rfl (one_cells _) ?_); (as_aux_lemma => kernel_rfl); (as_aux_lemma => kernel_rfl))
                  | ((with_reducible refine wpList_load_sub rfl 27 (.tmp 172) rfl (wg.heap.size + 1) 17 rfl y.cells _ (range_pair1 RQ2.out) Try.underlying27 rfl HIX.out ?_)))
                refine (COR.out _).mono ?_
                rintro e w2 ⟨v3, rfl, hO, hb2⟩
                have RT3 := Lib.hid (row_below hb2 RT2.out)
                have RU3 := Lib.hid (row_below hb2 RU2.out)
                have HB3 := Lib.hid (HB2.out.trans (hb2.mono HB2.out.size))
                have LO3 := Lib.hid (LO2.out.below hb2)
                have hz3 : wr.heap.size + 1 + 1 < w2.heap.size := row_lt RU3.out
                have LR3 := Lib.hid (show OutAt (w2.setRow (wr.heap.size + 1 + 1) k2.cells) (wr.heap.size + 3) v3 ms2 from (hO.setRow _ (by omega) _).mono (by omega))
                clear hO hb2
                go_wp2_with ((with_reducible refine wpList_store_rowTo rfl 27 (.tmp 19) (.tmp 176) rfl rfl (wr.heap.size + 1 + 1) k2.cells ?_ ?_ 27 (#[.int .u8 0, .int .u8 0, .int .u8 0, .int .u8 0, .int .u8 0, .int .u8 0, .int .u8 0, .int .u8 0, .int .u8 0, .int .u8 0, .int .u8 0, .int .u8 0, .int .u8 0, .int .i64 0, .int .i64 0, .int .i64 0, .int .i64 0]) RU3.out HI2.out rfl (one_cells _) ?_); (as_aux_lemma => kernel_rfl); (as_aux_lemma => kernel_rfl))
                go_meet
                case rel => exact ⟨k2, ms2, er, _, _, rfl, rfl, rfl, rfl, HWF.out, HF.out.2.1, HF.out.2.2, (setRow_other _ _ _ _ (by omega)).trans RT3.out, setRow_heap _ _ _ _ _ _ RU3.out, below_setRow' HB3.out (by omega) _, LO3.out.setRow _ (by omega) _, LR3.out⟩
              have hsz' : ((s0.length : Int) == 0) = false := by simpa using hsz
              obtain ⟨q, hq, hql⟩ := mod_nat2 (a := wh) (n := s0.length) gw2 (by omega)
              obtain ⟨gX, mv, m, rfl, hcX, hmv, hmA, hmm⟩ := out_cell T.out.l0 hql
              have HMI := Lib.hid (hmA.read (M0.out m hmm).2)
              have hmby := (M0.out m hmm).2
              obtain ⟨⟨k2, ms2, er⟩, hr⟩ : ∃ r : Res, pHandle y m (N + wt) = r := ⟨_, rfl⟩
              have hfine : Res.Fine (k2, ms2, er) := hr ▸ fine_handle WY.out.toBy m (N + wt)
              have hwf : k2.Wf := by have h := wf_handle WY.out.toBy m hmby (N + wt); rw [hr] at h; exact h
              have CON := Lib.hid (fun W (hq : MsgIn W mv m) => ret_of hr (handle_any y WY.out.toBy (N + wt) mv m W hq))
              have COR := Lib.hid (fun W (hq : MsgIn W mv m) => ret_of hr (rhandle_any y WY.out.toBy WY.out.st.1 (N + wt) mv m W hq))
              have HI2 := Lib.hid (link_info2 k2)
              have HF := Lib.hid hfine
              have HWF := Lib.hid hwf
              clear hr hfine hwf
              have hqt : wh.tmod (s0.length : Int) = (q : Int) := by rw [Int.tmod_eq_emod_of_nonneg gw2]; exact hq
              have hqi : (q : Int) < (s0.length : Int) := by omega
              have hqz : (0 : Int) ≤ (q : Int) := by omega
              have hsn : ¬ ((s0.length : Int) = 0) := by omega
              have hsp : (0 : Int) < (s0.length : Int) := by omega
              go_upto_region 18 with fail
              refine wp_region_held_drew (S := fun w' => Below wr.heap.size wr w' ∧ w'.heap[wr.heap.size]? = some (.cells #[.int .u8 kd, .int .u8 tt, .int .i64 wh, .int .i64 wt] 56)) (by kernel_rfl) (⟨HBW.out.drew, RE.out⟩) (fun hHeld => ?_)
              refine wpAnyH_take (i := 0) (v := .int .i64 1) rfl (by kernel_rfl) (by kernel_rfl) (by kernel_rfl) (fun _ _ _ h => h) (Or.inl ⟨by rfl, by intro w hSw; clear hHeld hSw; go_simp; (try rfl)⟩) (by assumption) ?_
              simp only [Act.put, List.setIfInBounds_toArray, List.set_cons_zero, List.set_cons_succ, List.getElem_toArray, List.getElem_cons_succ, List.getElem_cons_zero]
              refine wpAnyH_take (i := 1) (v := .int .i64 0) rfl (by kernel_rfl) (by kernel_rfl) (by kernel_rfl) (fun _ _ _ h => h) (Or.inl ⟨by rfl, by intro w hSw; clear hHeld hSw; go_simp; (try rfl)⟩) (by assumption) ?_
              simp only [Act.put, List.setIfInBounds_toArray, List.set_cons_zero, List.set_cons_succ, List.getElem_toArray, List.getElem_cons_succ, List.getElem_cons_zero]
              refine wpAnyH_take (i := 2) (v := .pointer (some ⟨wg.heap.size + 1 + 1, 0, none⟩)) rfl (by kernel_rfl) (by kernel_rfl) (by kernel_rfl) (fun _ _ _ h => h) (Or.inl ⟨by rfl, by intro w hSw; clear hHeld hSw; go_simp; (try rfl)⟩) (by assumption) ?_
              simp only [Act.put, List.setIfInBounds_toArray, List.set_cons_zero, List.set_cons_succ, List.getElem_toArray, List.getElem_cons_succ, List.getElem_cons_zero]
              refine wpAnyH_take (i := 3) (v := .slice (some ⟨gX, 0, none⟩) s0.length cX) rfl (by kernel_rfl) (by kernel_rfl) (by kernel_rfl) (fun _ _ _ h => h) (Or.inl ⟨by rfl, by intro w hSw; have tq := below_kept hSw.1 tx; clear hHeld hSw; go_simp⟩) (by assumption) ?_
              simp only [Act.put, List.setIfInBounds_toArray, List.set_cons_zero, List.set_cons_succ, List.getElem_toArray, List.getElem_cons_succ, List.getElem_cons_zero]
              refine wpAnyH_take (i := 4) (v := .pointer (some ⟨wr.heap.size, 2, none⟩)) rfl (by kernel_rfl) (by kernel_rfl) (by kernel_rfl) (fun _ _ _ h => h) (Or.inl ⟨by rfl, by intro w hSw; clear hHeld hSw; go_simp; (try rfl)⟩) (by assumption) ?_
              simp only [Act.put, List.setIfInBounds_toArray, List.set_cons_zero, List.set_cons_succ, List.getElem_toArray, List.getElem_cons_succ, List.getElem_cons_zero]
              refine wpAnyH_take (i := 5) (v := .int .i64 wh) rfl (by kernel_rfl) (by kernel_rfl) (by kernel_rfl) (fun _ _ _ h => h) (Or.inl ⟨by rfl, by intro w hSw; have tq : w.cell? ⟨wr.heap.size, 2, none⟩ = some (.int .i64 wh) := (cell_of_row _ _ _ _ _ _ hSw.2).trans rfl; clear hHeld hSw; go_simp⟩) (by assumption) ?_
              simp only [Act.put, List.setIfInBounds_toArray, List.set_cons_zero, List.set_cons_succ, List.getElem_toArray, List.getElem_cons_succ, List.getElem_cons_zero]
              refine wpAnyH_take (i := 6) (v := .int .i64 1) rfl (by kernel_rfl) (by kernel_rfl) (by kernel_rfl) (fun _ _ _ h => h) (Or.inl ⟨by rfl, by intro w hSw; clear hHeld hSw; go_simp; (try rfl)⟩) (by assumption) ?_
              simp only [Act.put, List.setIfInBounds_toArray, List.set_cons_zero, List.set_cons_succ, List.getElem_toArray, List.getElem_cons_succ, List.getElem_cons_zero]
              refine wpAnyH_take (i := 7) (v := .int .i64 0) rfl (by kernel_rfl) (by kernel_rfl) (by kernel_rfl) (fun _ _ _ h => h) (Or.inl ⟨by rfl, by intro w hSw; clear hHeld hSw; go_simp; (try rfl)⟩) (by assumption) ?_
              simp only [Act.put, List.setIfInBounds_toArray, List.set_cons_zero, List.set_cons_succ, List.getElem_toArray, List.getElem_cons_succ, List.getElem_cons_zero]
              refine wpAnyH_take (i := 8) (v := .pointer (some ⟨wg.heap.size + 1 + 1, 0, none⟩)) rfl (by kernel_rfl) (by kernel_rfl) (by kernel_rfl) (fun _ _ _ h => h) (Or.inl ⟨by rfl, by intro w hSw; clear hHeld hSw; go_simp; (try rfl)⟩) (by assumption) ?_
              simp only [Act.put, List.setIfInBounds_toArray, List.set_cons_zero, List.set_cons_succ, List.getElem_toArray, List.getElem_cons_succ, List.getElem_cons_zero]
              refine wpAnyH_take (i := 9) (v := .slice (some ⟨gX, 0, none⟩) s0.length cX) rfl (by kernel_rfl) (by kernel_rfl) (by kernel_rfl) (fun _ _ _ h => h) (Or.inl ⟨by rfl, by intro w hSw; have tq := below_kept hSw.1 tx; clear hHeld hSw; go_simp⟩) (by assumption) ?_
              simp only [Act.put, List.setIfInBounds_toArray, List.set_cons_zero, List.set_cons_succ, List.getElem_toArray, List.getElem_cons_succ, List.getElem_cons_zero]
              refine wpAnyH_take (i := 10) (v := .int .i64 s0.length) rfl (by kernel_rfl) (by kernel_rfl) (by kernel_rfl) (fun _ _ _ h => h) (Or.inl ⟨by rfl, by intro w hSw; clear hHeld hSw; go_simp; (try rfl)⟩) (by assumption) ?_
              simp only [Act.put, List.setIfInBounds_toArray, List.set_cons_zero, List.set_cons_succ, List.getElem_toArray, List.getElem_cons_succ, List.getElem_cons_zero]
              refine wpAnyH_take (i := 11) (v := .int .i64 q) rfl (by kernel_rfl) (by kernel_rfl) (by kernel_rfl) (fun _ _ _ h => h) (Or.inl ⟨by rfl, by intro w hSw; clear hHeld hSw; go_simp; (try exact hqt)⟩) (by assumption) ?_
              simp only [Act.put, List.setIfInBounds_toArray, List.set_cons_zero, List.set_cons_succ, List.getElem_toArray, List.getElem_cons_succ, List.getElem_cons_zero]
              refine wpAnyH_take (i := 12) (v := .pointer (some ⟨gX, q, none⟩)) rfl (by kernel_rfl) (by kernel_rfl) (by kernel_rfl) (fun _ _ _ h => h) (Or.inl ⟨by rfl, by intro w hSw; clear hHeld hSw; go_simp; (try rfl)⟩) (by assumption) ?_
              simp only [Act.put, List.setIfInBounds_toArray, List.set_cons_zero, List.set_cons_succ, List.getElem_toArray, List.getElem_cons_succ, List.getElem_cons_zero]
              refine wpAnyH_take (i := 13) (v := mv) rfl (by kernel_rfl) (by kernel_rfl) (by kernel_rfl) (fun _ _ _ h => h) (Or.inl ⟨by rfl, by intro w hSw; have tq := below_kept hSw.1 hmv; clear hHeld hSw; go_simp⟩) (by assumption) ?_
              simp only [Act.put, List.setIfInBounds_toArray, List.set_cons_zero, List.set_cons_succ, List.getElem_toArray, List.getElem_cons_succ, List.getElem_cons_zero]
              refine wpAnyH_take (i := 14) (v := mv) rfl (by kernel_rfl) (by kernel_rfl) (by kernel_rfl) (fun _ _ _ h => h) (Or.inl ⟨by rfl, by intro w hSw; clear hHeld hSw; go_simp; (try rfl)⟩) (by assumption) ?_
              simp only [Act.put, List.setIfInBounds_toArray, List.set_cons_zero, List.set_cons_succ, List.getElem_toArray, List.getElem_cons_succ, List.getElem_cons_zero]
              clear hHeld
              refine wpAnyH_done (by kernel_rfl) ?_ _
              have RT := Lib.hid (row_drew RT.out)
              have RU := Lib.hid (row_drew RU.out)
              have RP := Lib.hid (row_drew RP.out)
              have RQ := Lib.hid (row_drew RQ.out)
              have HBW := Lib.hid HBW.out.drew
              have hTl : wr.heap.size + 1 + 1 < wB.drew.heap.size := row_lt RU.out
              clear ce0 tb RE
              generalize hgen : wB.drew = wD at *
              clear hgen
              go_wp2_with ((with_reducible refine wpList_load_sub rfl 27 (.tmp 87) rfl wg.heap.size 17 rfl y.cells _ (range_pair1 RP.out) Try.underlying27 rfl HIX.out ?_))
              refine (CON.out _ (HMI.out.below HBW.out)).mono ?_
              rintro e w1 ⟨v2, rfl, hO, hb1⟩
              have RT1 := Lib.hid (row_below hb1 RT.out)
              have RU1 := Lib.hid (row_below hb1 RU.out)
              have RQ1 := Lib.hid (row_below hb1 RQ.out)
              have HB1 := Lib.hid (HBW.out.trans (hb1.mono HBW.out.size))
              have hz1 : wr.heap.size + 1 + 1 < w1.heap.size := row_lt RU1.out
              have RT2 := Lib.hid (show (w1.setRow (wr.heap.size + 1) k2.cells).heap[wr.heap.size + 1]? = some (.cells k2.cells 27) from setRow_heap _ _ _ _ _ _ RT1.out)
              have RU2 := Lib.hid (show (w1.setRow (wr.heap.size + 1) k2.cells).heap[wr.heap.size + 1 + 1]? = some (.cells #[.int .u8 0, .int .u8 0, .int .u8 0, .int .u8 0, .int .u8 0, .int .u8 0, .int .u8 0, .int .u8 0, .int .u8 0, .int .u8 0, .int .u8 0, .int .u8 0, .int .u8 0, .int .i64 0, .int .i64 0, .int .i64 0, .int .i64 0] 27) from (setRow_other _ _ _ _ (by omega)).trans RU1.out)
              have RQ2 := Lib.hid (show (w1.setRow (wr.heap.size + 1) k2.cells).heap[wg.heap.size + 1]? = some (.cells (pairCells x y) 28) from (setRow_other _ _ _ _ (by omega)).trans RQ1.out)
              have HB2 := Lib.hid (show Below wr.heap.size wr (w1.setRow (wr.heap.size + 1) k2.cells) from below_setRow' HB1.out (Nat.le_succ _) _)
              have LO2 := Lib.hid (show OutAt (w1.setRow (wr.heap.size + 1) k2.cells) (wr.heap.size + 3) v2 ms2 from (hO.setRow _ (by omega) _).mono (by omega))
              have hz2 : wr.heap.size + 1 + 1 < (w1.setRow (wr.heap.size + 1) k2.cells).heap.size := row_lt RU2.out
              clear hO hb1
              go_wp2_with (first
                | ((with_reducible refine wpList_store_rowTo rfl 27 (.tmp 18) (.tmp 92) rfl rfl (wr.heap.size + 1) k2.cells ?_ ?_ 27 (#[.int .u8 0, .int .u8 0, .int .u8 0, .int .u8 0, .int .u8 0, .int .u8 0, .int .u8 0, .int .u8 0, .int .u8 0, .int .u8 0, .int .u8 0, .int .u8 0, .int .u8 0, .int .i64 0, .int .i64 0, .int .i64 0, .int .i64 0]) RT1.out HI2.out rfl (one_cells _) ?_); (as_aux_lemma => kernel_rfl); (as_aux_lemma => kernel_rfl))
                | ((with_reducible refine wpList_load_sub rfl 27 (.tmp 97) rfl (wg.heap.size + 1) 17 rfl y.cells _ (range_pair1 RQ2.out) Try.underlying27 rfl HIX.out ?_)))
              refine (COR.out _ (HMI.out.below HB2.out)).mono ?_
              rintro e w2 ⟨v3, rfl, hO, hb2⟩
              have RT3 := Lib.hid (row_below hb2 RT2.out)
              have RU3 := Lib.hid (row_below hb2 RU2.out)
              have HB3 := Lib.hid (HB2.out.trans (hb2.mono HB2.out.size))
              have LO3 := Lib.hid (LO2.out.below hb2)
              have hz3 : wr.heap.size + 1 + 1 < w2.heap.size := row_lt RU3.out
              have LR3 := Lib.hid (show OutAt (w2.setRow (wr.heap.size + 1 + 1) k2.cells) (wr.heap.size + 3) v3 ms2 from (hO.setRow _ (by omega) _).mono (by omega))
              clear hO hb2
              go_wp2_with ((with_reducible refine wpList_store_rowTo rfl 27 (.tmp 19) (.tmp 102) rfl rfl (wr.heap.size + 1 + 1) k2.cells ?_ ?_ 27 (#[.int .u8 0, .int .u8 0, .int .u8 0, .int .u8 0, .int .u8 0, .int .u8 0, .int .u8 0, .int .u8 0, .int .u8 0, .int .u8 0, .int .u8 0, .int .u8 0, .int .u8 0, .int .i64 0, .int .i64 0, .int .i64 0, .int .i64 0]) RU3.out HI2.out rfl (one_cells _) ?_); (as_aux_lemma => kernel_rfl); (as_aux_lemma => kernel_rfl))
              go_meet
              case rel => exact ⟨k2, ms2, er, _, _, rfl, rfl, rfl, rfl, HWF.out, HF.out.2.1, HF.out.2.2, (setRow_other _ _ _ _ (by omega)).trans RT3.out, setRow_heap _ _ _ _ _ _ RU3.out, below_setRow' HB3.out (by omega) _, LO3.out.setRow _ (by omega) _, LR3.out⟩
          case rest =>
            as_aux_lemma =>
              obtain ⟨k2, ms2, er, v2, v3, rfl, rfl, rfl, rfl, hwf, hf2, hf3, rT, rU, hbx, lx, ly⟩ := hcut
              have TC := Lib.hid (T.out.next hbx)
              have CT := Lib.hid rT
              have CU := Lib.hid rU
              have LX := Lib.hid lx
              have LXR := Lib.hid (lx.read hf2 (Nat.le_trans hf3 (by unfold maxLen; decide)))
              have LYR := Lib.hid (ly.read hf2 (Nat.le_trans hf3 (by unfold maxLen; decide)))
              have hz1 : wg.heap.size + 1 + 1 < wr.heap.size := row_lt T.out.ro
              have HI2 := Lib.hid (link_info2 k2)
              have HEQ := eql_self k2 hwf
              have HWF := Lib.hid hwf
              have HF2 := Lib.hid hf2
              clear rT rU lx ly RE RT RU HBW T tx hTl hwf hf2
              go_wp2_with (first
                | (with_reducible refine wpList_load_row rfl 27 (.tmp 18) rfl (wr.heap.size + 1) rfl 27 k2.cells (0, 0) _ CT.out Try.underlying27 rfl HI2.out ?_)
                | (with_reducible refine wpList_load_row rfl 27 (.tmp 19) rfl (wr.heap.size + 1 + 1) rfl 27 k2.cells (0, 0) _ CU.out Try.underlying27 rfl HI2.out ?_))
              refine (same_yes _ _ _ _ rfl _ LXR.out LYR.out).mono ?_
              rintro e we ⟨rfl, hb⟩
              have TC := Lib.hid (TC.out.next hb)
              have CT := Lib.hid (row_below hb CT.out)
              have CU := Lib.hid (row_below hb CU.out)
              have LX := Lib.hid (LX.out.below hb)
              have hbx := below_step hbx hb
              clear hb LXR LYR HEQ
              by_cases he : er = 0
              · subst he
                have HTH := Lib.hid (show we.drew.there wg.heap.size 17 k2.cells.size from there_of_row (row_drew TC.out.rp) 17 17 (by rw [pair_size]; decide))
                have RQX := Lib.hid (show (we.drew.setCells wg.heap.size 17 k2.cells.toList).heap[wg.heap.size + 1]? = some (.cells (pairCells x y) 28) from (heap_setCells_far _ _ _ _ _ (by omega)).trans (row_drew TC.out.rq))
                have HTH2 := Lib.hid (show (we.drew.setCells wg.heap.size 17 k2.cells.toList).there (wg.heap.size + 1) 17 k2.cells.size from there_of_row RQX.out 17 17 (by rw [pair_size]; decide))
                go_upto_region 33 with fail
                refine wp_region_held_drew (S := fun w' => w'.heap[wr.heap.size + 1]? = some (.cells k2.cells 27) ∧ w'.heap[wr.heap.size + 1 + 1]? = some (.cells k2.cells 27)) (by kernel_rfl) (⟨CT.out, CU.out⟩) (fun hHeld => ?_)
                refine wpAnyH_take (i := 0) (v := .int .i64 1) rfl (by kernel_rfl) (by kernel_rfl) (by kernel_rfl) (fun _ _ _ h => h) (Or.inl ⟨by rfl, by intro w hSw; clear hHeld hSw; go_simp; (try rfl)⟩) (by assumption) ?_
                simp only [Act.put, List.setIfInBounds_toArray, List.set_cons_zero, List.set_cons_succ, List.getElem_toArray, List.getElem_cons_succ, List.getElem_cons_zero]
                refine wpAnyH_take (i := 1) (v := .int .i64 1) rfl (by kernel_rfl) (by kernel_rfl) (by kernel_rfl) (fun _ _ _ h => h) (Or.inl ⟨by rfl, by intro w hSw; clear hHeld hSw; go_simp; (try rfl)⟩) (by assumption) ?_
                simp only [Act.put, List.setIfInBounds_toArray, List.set_cons_zero, List.set_cons_succ, List.getElem_toArray, List.getElem_cons_succ, List.getElem_cons_zero]
                refine wpAnyH_take (i := 2) (v := .agg k2.cells) rfl (by kernel_rfl) (by kernel_rfl) (by kernel_rfl) (fun _ _ _ h => h) (yields_sub (by rfl) 27 _ rfl (wr.heap.size + 1) 0 (by rfl) k2.cells _ (fun w' h' => range_row h'.1) Try.underlying27 rfl HI2.out) (by assumption) ?_
                simp only [Act.put, List.setIfInBounds_toArray, List.set_cons_zero, List.set_cons_succ, List.getElem_toArray, List.getElem_cons_succ, List.getElem_cons_zero]
                refine wpAnyH_take (i := 3) (v := .agg k2.cells) rfl (by kernel_rfl) (by kernel_rfl) (by kernel_rfl) (fun _ _ _ h => h) (yields_sub (by rfl) 27 _ rfl (wr.heap.size + 1 + 1) 0 (by rfl) k2.cells _ (fun w' h' => range_row h'.2) Try.underlying27 rfl HI2.out) (by assumption) ?_
                simp only [Act.put, List.setIfInBounds_toArray, List.set_cons_zero, List.set_cons_succ, List.getElem_toArray, List.getElem_cons_succ, List.getElem_cons_zero]
                refine wpAnyH_take (i := 4) (v := .pointer (some ⟨wg.heap.size, 17, none⟩)) rfl (by kernel_rfl) (by kernel_rfl) (by kernel_rfl) (fun _ _ _ h => h) (Or.inl ⟨by rfl, by intro w hSw; clear hHeld hSw; go_simp; (try rfl)⟩) (by assumption) ?_
                simp only [Act.put, List.setIfInBounds_toArray, List.set_cons_zero, List.set_cons_succ, List.getElem_toArray, List.getElem_cons_succ, List.getElem_cons_zero]
                refine wpAnyH_ready (rs := [5]) (by kernel_rfl) (by simp) ?_
                refine AllReadyH.cons (i := 5) (rs := []) rfl ?_ AllReadyH.nil
                intro Kq hKq
                simp only [List.getElem_toArray, List.getElem_cons_succ, List.getElem_cons_zero]
                rw [if_pos (by rfl)]
                refine wp_store_mid 27 (.tmp 199) (.tmp 197) (by rfl) wg.heap.size 17 k2.cells (by as_aux_lemma => kernel_rfl) (by as_aux_lemma => kernel_rfl) HTH.out HI2.out (one_cells _) ?_
                refine hKq.out _ _ (⟨(heap_setCells_far _ _ _ _ _ (by omega)).trans (row_drew CT.out), (heap_setCells_far _ _ _ _ _ (by omega)).trans (row_drew CU.out)⟩) (fun hHeld2 => ?_)
                clear hKq Kq hHeld
                have hHeld := hHeld2
                clear hHeld2
                simp only [Act.put, List.setIfInBounds_toArray, List.set_cons_zero, List.set_cons_succ]
                obtain ⟨wy, hwy⟩ : ∃ q, q = (we.drew.setCells wg.heap.size 17 k2.cells.toList) := ⟨_, rfl⟩
                rw [← hwy] at HTH2 hHeld
                rw [← hwy]
                refine wpAnyH_take (i := 6) (v := .pointer (some ⟨wg.heap.size + 1, 17, none⟩)) rfl (by kernel_rfl) (by kernel_rfl) (by kernel_rfl) (fun _ _ _ h => h) (Or.inl ⟨by rfl, by intro w hSw; clear hHeld hSw; go_simp; (try rfl)⟩) (by assumption) ?_
                simp only [Act.put, List.setIfInBounds_toArray, List.set_cons_zero, List.set_cons_succ, List.getElem_toArray, List.getElem_cons_succ, List.getElem_cons_zero]
                refine wpAnyH_ready (rs := [7]) (by kernel_rfl) (by simp) ?_
                refine AllReadyH.cons (i := 7) (rs := []) rfl ?_ AllReadyH.nil
                intro Kq hKq
                simp only [List.getElem_toArray, List.getElem_cons_succ, List.getElem_cons_zero]
                rw [if_pos (by rfl)]
                refine wp_store_mid 27 (.tmp 200) (.tmp 198) (by rfl) (wg.heap.size + 1) 17 k2.cells (by as_aux_lemma => kernel_rfl) (by as_aux_lemma => kernel_rfl) HTH2.out HI2.out (one_cells _) ?_
                refine hKq.out _ _ (⟨(heap_setCells_far _ _ _ _ _ (by omega)).trans hHeld.1, (heap_setCells_far _ _ _ _ _ (by omega)).trans hHeld.2⟩) (fun hHeld2 => ?_)
                clear hKq Kq hHeld
                have hHeld := hHeld2
                clear hHeld2
                simp only [Act.put, List.setIfInBounds_toArray, List.set_cons_zero, List.set_cons_succ]
                clear hHeld
                refine wpAnyH_done (by kernel_rfl) ?_ _
                obtain ⟨wd, hwd⟩ : ∃ q, q = wy.setCells (wg.heap.size + 1) 17 k2.cells.toList := ⟨_, rfl⟩
                have TD := Lib.hid (show Su wg wd x k2 s0 s1 (.slice aoX s0.length cX) v1 from by rw [hwd, hwy]; exact (TC.out.next (Below.refl _ _).drew).links1 k2)
                have LY := Lib.hid (show OutAt wd (wg.heap.size + 3) u20 ms2 from by rw [hwd, hwy]; exact LX.out.far2 (Nat.add_le_add_right (Nat.le_of_lt (Nat.lt_of_le_of_lt (Nat.le_add_right wg.heap.size 2) hz1)) 3))
                rw [← hwd]
                clear TC CT CU LX HTH HTH2 RQX hbx hwd hwy
                obtain ⟨xsO, hoO, hxO⟩ := TD.out.l1
                obtain ⟨nws, hrd, hnx⟩ := LY.out.reads
                have HOO := Lib.hid hoO
                have HXO := Lib.hid hxO
                have HRD := Lib.hid hrd
                have HNX := Lib.hid hnx
                have hxl : xsO.length = s1.length := by have := hoO.1; omega
                clear hoO hxO hrd hnx LY
                have q0 : wd.cell? ⟨wg.heap.size + 1 + 1, 0, none⟩ = some (.slice aoX s0.length cX) := (cell_of_row _ _ _ _ _ _ TD.out.ro).trans rfl
                have q1 : wd.cell? ⟨wg.heap.size + 1 + 1, 1, none⟩ = some v1 := (cell_of_row _ _ _ _ _ _ TD.out.ro).trans rfl
                have hz2 : wg.heap.size + 1 + 1 < wd.heap.size := row_lt TD.out.ro
                have HBK := Lib.hid (fun g e => (TD.out.l1.block g e).2.1)
                go_wp2_with (refine wpList_append_list rfl (some 206) rfl (.tmp 204) (.tmp 205) rfl (wg.heap.size + 3) v1 s1.length xsO rfl HOO.out u20 ms2.length nws rfl HRD.out (app_le hl1 hlt hn hf3) hz2 ?_; intro v5 w5 ho5 hg5 ha5; obtain ⟨ao5, n5, c5, e5⟩ := row_slice ho5; subst e5; have r5 := (hg5.block (wg.heap.size + 1 + 1) hz2 (fun e => no3 (HBK.out _ e.symm))).trans TD.out.ro; have q5 : w5.cell? ⟨wg.heap.size + 1 + 1, 1, none⟩ = some v1 := (cell_of_row _ _ _ _ _ _ r5).trans rfl; have f5 : ∀ o, w5.frozen? ⟨wg.heap.size + 1 + 1, o, none⟩ = false := fun o => frozen_of_row _ _ _ _ _ r5; have TE := Lib.hid (TD.out.sent1 hxl HXO.out HNX.out ho5 hg5 ha5); clear ho5 hg5 ha5 r5)
                go_roundg (n - (k + 1))
                case measure => exact meas hlt
                case rel => exact ⟨k + 1, N + wt, hlt, rfl, rfl, rfl, x, k2, s0, s1 ++ ms2, (.slice aoX s0.length cX), (.slice ao5 n5 c5), WX.out, HWF.out, M0.out, Msgs.app M1.out HF2.out, le_more hl0, app_len hl1 hf3, time_more hN0 hN1 gw0 gw1, TE.out⟩
              · have hez : (er == 0) = false := by simpa using he
                go_wp2_with fail
                go_roundg (n - (k + 1))
                case measure => exact meas hlt
                case rel => exact ⟨k + 1, N + wt, hlt, rfl, rfl, rfl, x, y, s0, s1, (.slice aoX s0.length cX), v1, WX.out, WY.out, M0.out, M1.out, le_more hl0, le_more hl1, time_more hN0 hN1 gw0 gw1, TC.out⟩
      · obtain rfl : k = n := by omega
        go_wp2
        go_ret
        exact ⟨rfl, below_step HBG.out T.out.below⟩
theorem walk (id other : Int) (hi : -9223372036854775808 ≤ id ∧ id ≤ 9223372036854775807) (ho : -9223372036854775808 ≤ other ∧ other ≤ 9223372036854775807) (v : Value) (n : Nat) (E : Nat → Ev) (w : World) (hE : EvIn w v n E) : Calls Try.prog 7 #[.int .i64 id, .int .i64 other, v] w (BoolR w) := by
  by_cases h0 : inB id = true
  · by_cases h1 : inB other = true
    · exact in_ id other hi ho h0 h1 v n E w hE
    · exact out1 id other hi ho h0 (by simpa using h1) v n E w hE
  · exact out0 id other hi ho (by simpa using h0) v n E w hE
end Go.Proofs.Ytmighkgjbohieaa.peerRuns
