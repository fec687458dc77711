/-
  The walk of PeerSettles, by case: who starts, and who closes.
-/
import Derived.Test.YtmighkgjbohieaaPeerAux
set_option linter.unusedVariables false
set_option linter.unusedSimpArgs false
namespace Go.Proofs.Ytmighkgjbohieaa.peerSettles
open Go.ChangeShapes Go.WideShapes Go.ChangeAt Go.RowKit Go.Great

set_option maxRecDepth 100000 in
set_option maxHeartbeats 8000000 in
theorem settles_00 (id other closer : Int) (hcl : closer % 2 = 0) (hc0 : 0 ≤ closer ∧ closer ≤ 255) (hid : 1 ≤ id ∧ id ≤ 65535) (hot : 1 ≤ other ∧ other ≤ 65535) (A0 B0 A1 B1 pa pb kc kd ke kf : Lk) (m1 m2 m3 m4 : List Int)
    (g1 : MsgOk m1) (g2 : MsgOk m2) (g3 : MsgOk m3) (g4 : MsgOk m4) (yA : A1.By) (yB : B0.By)
    (cE : ∀ w, Calls Try.prog 11 #[.int .i64 id, .int .i64 other] w fun e w' => e = .returned (.tuple #[.agg (pairCells A0 B0), .bool true]) ∧ Below w.heap.size w w')
    (cS : ∀ w, Calls Try.prog 17 #[.agg A0.cells, .int .i64 0] w (Ret3 w A1 [m1] 0))
    (cT : ∀ w, Calls Try.prog 17 #[.agg B0.cells, .int .i64 0] w (Ret3 w B1 [m2] 0))
    (hp : passF 100 A1 B0 [m1] [] 0 = (pa, pb, true)) (hpp : pairedB pa pb = true)
    (cC : ∀ w, Calls Try.prog 19 #[.agg pa.cells, .int .i64 10] w (Ret3 w kc [m3] 0))
    (cH : ∀ w mv, MsgIn w mv m3 → Calls Try.prog 20 #[.agg pb.cells, mv, .int .i64 10] w (Ret3 w kd [m4] 0)) (hst : kd.st = 5)
    (cI : ∀ w mv, MsgIn w mv m4 → Calls Try.prog 20 #[.agg kc.cells, mv, .int .i64 10] w (Ret3 w ke [] 0))
    (cK : ∀ w, Calls Try.prog 21 #[.agg kd.cells, .int .i64 40010] w (Ret3 w kf [] 0))
    (x0 : ke.st = 0) (x1 : ke.id = id % 65535 + 1) (x2 : ke.ot = 0) (y0 : kf.st = 0) (y1 : kf.id = other % 65535 + 1) (y2 : kf.ot = 0) (w : World) :
    Calls Try.prog 4 #[.int .i64 id, .int .i64 other, .bool false, .int .u8 closer] w fun e w' => e = .returned (.bool true) ∧ Below w.heap.size w w' := by
  have CE := Lib.hid cE
  have CS := Lib.hid cS
  have CT := Lib.hid cT
  have HP := Lib.hid hp
  have HPP := Lib.hid hpp
  have CC := Lib.hid cC
  have CH := Lib.hid cH
  have CI := Lib.hid cI
  have CK := Lib.hid cK
  have HG1 := Lib.hid g1
  have HG2 := Lib.hid g2
  have HG3 := Lib.hid g3
  have HG4 := Lib.hid g4
  have YA := Lib.hid yA
  have YB := Lib.hid yB
  have HST := Lib.hid hst
  have X0 := Lib.hid x0
  have X1 := Lib.hid x1
  have X2 := Lib.hid x2
  have Y0 := Lib.hid y0
  have Y1 := Lib.hid y1
  have Y2 := Lib.hid y2
  clear cE cS cT hp hpp cC cH cI cK g1 g2 g3 g4 yA yB hst x0 x1 x2 y0 y1 y2
  have HIA0 := Lib.hid (link_info2 A0)
  have HIB0 := Lib.hid (link_info2 B0)
  have HIA1 := Lib.hid (link_info2 A1)
  have HIB1 := Lib.hid (link_info2 B1)
  have HIpa := Lib.hid (link_info2 pa)
  have HIpb := Lib.hid (link_info2 pb)
  have HIkc := Lib.hid (link_info2 kc)
  have HIkd := Lib.hid (link_info2 kd)
  have HIke := Lib.hid (link_info2 ke)
  have HIkf := Lib.hid (link_info2 kf)
  have HIP0 := Lib.hid (pair_info A0 B0)
  have HIPP := Lib.hid (pair_info pa pb)
  go_enter Try.func4, Try.ntmps4
  go_wp2_with (fail)
  refine (alive_any _).mono ?_
  rintro e w1 ⟨rfl, hb⟩
  have HBw1 := Lib.hid (below_step (Below.refl w.heap.size w) hb)
  clear hb
  go_wp2_with (fail)
  refine (CE.out _).mono ?_
  rintro e w2 ⟨rfl, hb⟩
  have HBw2 := Lib.hid (below_step HBw1.out hb)
  clear hb
  have gRS : w.heap.size ≤ w2.heap.size := by have hh := Below.size HBw2.out; exact hh
  have nRS_RO : w2.heap.size < w2.heap.size + 1 := Nat.lt_succ_self _
  have gRO : w.heap.size ≤ w2.heap.size + 1 := by have hh := Below.size (below_more HBw2.out (.cells (pairCells A0 B0) 28)); simp only [World.size_alloc] at hh; exact hh
  go_wp2_with (first
    | (with_reducible refine wpList_runTo rfl (some 10) rfl (.pointer (some ⟨w2.heap.size, 0, none⟩)) (w2.alloc (.cells zp 28)) (by as_aux_lemma => kernel_rfl) ?_; simp only [Act.put, List.setIfInBounds_toArray, List.set_cons_succ, List.set_cons_zero])
    | ((with_reducible refine wpList_store_rowTo rfl 28 (.tmp 10) (.tmp 32) rfl rfl (w2.heap.size) (pairCells A0 B0) ?_ ?_ 28 zp (heap_alloc_at rfl) HIP0.out rfl (pair_one _ _) ?_); (as_aux_lemma => kernel_rfl); (as_aux_lemma => kernel_rfl); rw [setRow_allocAt rfl])
    | ((with_reducible refine wpList_load_sub rfl 27 (.tmp 42) rfl (w2.heap.size) 0 rfl A0.cells _ (range_pair0 (row_alloc (heap_alloc_at rfl))) Try.underlying27 rfl HIA0.out ?_)))
  refine (CS.out _).mono ?_
  rintro e w3 ⟨v1, rfl, hO, hb⟩
  have RSw3 := Lib.hid (show w3.heap[w2.heap.size]? = some (.cells (pairCells A0 B0) 28) from row_below hb (row_alloc (heap_alloc_at rfl)))
  have lRSw3 : w2.heap.size < w3.heap.size := row_lt RSw3.out
  have ROw3 := Lib.hid (show w3.heap[w2.heap.size + 1]? = some (.cells #[(.slice none 0 0), (.slice none 0 0)] 40) from row_below hb (heap_alloc_at (by simp only [World.size_alloc])))
  have lROw3 : w2.heap.size + 1 < w3.heap.size := row_lt ROw3.out
  have HBw3 := Lib.hid (below_step (below_more (below_more HBw2.out (.cells (pairCells A0 B0) 28)) (.cells #[(.slice none 0 0), (.slice none 0 0)] 40)) hb)
  clear hb
  have mLX_RS : w2.heap.size < w2.heap.size + 1 + 1 := Nat.lt_succ_of_lt (Nat.lt_succ_self _)
  have mLX_RO : w2.heap.size + 1 < w2.heap.size + 1 + 1 := Nat.lt_succ_self _
  have hqLX : ListOk (fun b => w2.heap.size + 1 + 1 ≤ b) w3 v1 [m1] := (hO.listOk (one_ok HG1.out) (Nat.le_trans (show _ ≤ 2 by first | (show 1 ≤ 2; decide) | (show 0 ≤ 2; decide) | (show 2 ≤ 2; decide)) (by unfold maxLen; decide))).mono (fun b q => Nat.le_trans (by first | exact Nat.le_refl _ | (simp only [World.size_alloc]; exact Nat.le_refl _)) q)
  obtain ⟨aoLX, cLX, rfl, hq1LX, hq2LX, hq3LX⟩ := hqLX
  have LXw3 := Lib.hid (show ListOk (fun b => w2.heap.size + 1 + 1 ≤ b) w3 (.slice aoLX 1 cLX) [m1] from ⟨aoLX, cLX, rfl, hq1LX, hq2LX, hq3LX⟩)
  clear hO hq1LX hq2LX hq3LX
  have nRS_RA1 : w2.heap.size < w3.heap.size := lRSw3
  have nRO_RA1 : w2.heap.size + 1 < w3.heap.size := lROw3
  have gRA1 : w.heap.size ≤ w3.heap.size := by have hh := Below.size HBw3.out; exact hh
  go_upto_region 7 with ((with_reducible refine wpList_store_rowTo rfl 27 (.tmp 13) (.tmp 45) rfl rfl (w3.heap.size) (A1.cells) ?_ ?_ 27 #[.int .u8 0, .int .u8 0, .int .u8 0, .int .u8 0, .int .u8 0, .int .u8 0, .int .u8 0, .int .u8 0, .int .u8 0, .int .u8 0, .int .u8 0, .int .u8 0, .int .u8 0, .int .i64 0, .int .i64 0, .int .i64 0, .int .i64 0] (heap_alloc_at rfl) HIA1.out rfl (one_cells _) ?_); (as_aux_lemma => kernel_rfl); (as_aux_lemma => kernel_rfl); rw [setRow_allocAt rfl])
  obtain ⟨wpa, hwq⟩ : ∃ wq, wq = (w3.alloc (.cells A1.cells 27)) := ⟨_, rfl⟩
  rw [← hwq]
  have hb : Below ((w3.alloc (.cells A1.cells 27))).heap.size (w3.alloc (.cells A1.cells 27)) wpa := by rw [hwq]; exact Below.refl _ _
  clear hwq
  have RSwpa := Lib.hid (show wpa.heap[w2.heap.size]? = some (.cells (pairCells A0 B0) 28) from row_below hb (row_alloc RSw3.out))
  have lRSwpa : w2.heap.size < wpa.heap.size := row_lt RSwpa.out
  have ROwpa := Lib.hid (show wpa.heap[w2.heap.size + 1]? = some (.cells #[(.slice none 0 0), (.slice none 0 0)] 40) from row_below hb (row_alloc ROw3.out))
  have lROwpa : w2.heap.size + 1 < wpa.heap.size := row_lt ROwpa.out
  have RA1wpa := Lib.hid (show wpa.heap[w3.heap.size]? = some (.cells A1.cells 27) from row_below hb (heap_alloc_at rfl))
  have lRA1wpa : w3.heap.size < wpa.heap.size := row_lt RA1wpa.out
  have LXwpa := Lib.hid (show ListOk (fun b => w2.heap.size + 1 + 1 ≤ b) wpa (.slice aoLX 1 cLX) [m1] from ListOk.keep (ListOk.keep LXw3.out (kept_below ((Below.refl _ _).alloc (Nat.le_refl _) _))) (kept_below hb))
  have HBwpa := Lib.hid (below_step (below_more HBw3.out (.cells A1.cells 27)) hb)
  clear hb
  have HTHwpa := Lib.hid (show wpa.there (w2.heap.size) 0 A1.cells.size from there_of_row RSwpa.out 0 17 (by rw [pair_size]; decide))
  go_upto_region 8 with (first
    | (with_reducible refine wpList_load_row rfl 27 (.tmp 13) rfl (w3.heap.size) rfl 27 (A1.cells) (0, 0) _ RA1wpa.out Try.underlying27 rfl HIA1.out ?_)
    | ((with_reducible refine wpList_store_midTo rfl rfl 27 (.tmp 50) (.tmp 48) rfl (w2.heap.size) 0 A1.cells ?_ ?_ HTHwpa.out HIA1.out (one_cells _) ?_); (as_aux_lemma => kernel_rfl); (as_aux_lemma => kernel_rfl); have RSwpb := Lib.hid (show (wpa.setCells (w2.heap.size) 0 A1.cells.toList).heap[w2.heap.size]? = some (.cells (pairCells A1 B0) 28) from (heap_setCells_same _ _ _ _ _ _ RSwpa.out).trans (by rw [put_pair0])); have lRSwpb : w2.heap.size < (wpa.setCells (w2.heap.size) 0 A1.cells.toList).heap.size := row_lt RSwpb.out; have ROwpb := Lib.hid (show (wpa.setCells (w2.heap.size) 0 A1.cells.toList).heap[w2.heap.size + 1]? = some (.cells #[(.slice none 0 0), (.slice none 0 0)] 40) from (heap_setCells_far _ _ _ _ _ (Nat.ne_of_gt nRS_RO)).trans ROwpa.out); have lROwpb : w2.heap.size + 1 < (wpa.setCells (w2.heap.size) 0 A1.cells.toList).heap.size := row_lt ROwpb.out; have RA1wpb := Lib.hid (show (wpa.setCells (w2.heap.size) 0 A1.cells.toList).heap[w3.heap.size]? = some (.cells A1.cells 27) from (heap_setCells_far _ _ _ _ _ (Nat.ne_of_gt nRS_RA1)).trans RA1wpa.out); have lRA1wpb : w3.heap.size < (wpa.setCells (w2.heap.size) 0 A1.cells.toList).heap.size := row_lt RA1wpb.out; have LXwpb := Lib.hid (show ListOk (fun b => w2.heap.size + 1 + 1 ≤ b) (wpa.setCells (w2.heap.size) 0 A1.cells.toList) (.slice aoLX 1 cLX) [m1] from ListOk.keep LXwpa.out (kept_setCells (Nat.not_le_of_lt mLX_RS))); have HBwpb := Lib.hid (below_setCells' gRS A1.cells.toList 0 _ _ HBwpa.out); generalize hgen : wpa.setCells (w2.heap.size) 0 A1.cells.toList = wpb at *; clear hgen; have z0wp : wpb.cell? ⟨w2.heap.size + 1, 0, none⟩ = some (.slice none 0 0) := (cell_of_row _ _ _ _ _ _ ROwpb.out).trans rfl; have z1wp : wpb.cell? ⟨w2.heap.size + 1, 1, none⟩ = some (.slice none 0 0) := (cell_of_row _ _ _ _ _ _ ROwpb.out).trans rfl; have zfwp : ∀ o, wpb.frozen? ⟨w2.heap.size + 1, o, none⟩ = false := fun o => frozen_of_row _ _ _ _ _ ROwpb.out))
  have RSwpc := Lib.hid (show (wpb.setCell ⟨w2.heap.size + 1, 0, none⟩ (.slice aoLX 1 cLX)).heap[w2.heap.size]? = some (.cells (pairCells A1 B0) 28) from row_set (Nat.ne_of_lt nRS_RO) RSwpb.out)
  have lRSwpc : w2.heap.size < (wpb.setCell ⟨w2.heap.size + 1, 0, none⟩ (.slice aoLX 1 cLX)).heap.size := row_lt RSwpc.out
  have ROwpc := Lib.hid (show (wpb.setCell ⟨w2.heap.size + 1, 0, none⟩ (.slice aoLX 1 cLX)).heap[w2.heap.size + 1]? = some (.cells #[(.slice aoLX 1 cLX), (.slice none 0 0)] 40) from heap_setCell_same _ _ 0 _ _ _ ROwpb.out)
  have lROwpc : w2.heap.size + 1 < (wpb.setCell ⟨w2.heap.size + 1, 0, none⟩ (.slice aoLX 1 cLX)).heap.size := row_lt ROwpc.out
  have RA1wpc := Lib.hid (show (wpb.setCell ⟨w2.heap.size + 1, 0, none⟩ (.slice aoLX 1 cLX)).heap[w3.heap.size]? = some (.cells A1.cells 27) from row_set (Nat.ne_of_gt nRO_RA1) RA1wpb.out)
  have lRA1wpc : w3.heap.size < (wpb.setCell ⟨w2.heap.size + 1, 0, none⟩ (.slice aoLX 1 cLX)).heap.size := row_lt RA1wpc.out
  have LXwpc := Lib.hid (show ListOk (fun b => w2.heap.size + 1 + 1 ≤ b) (wpb.setCell ⟨w2.heap.size + 1, 0, none⟩ (.slice aoLX 1 cLX)) (.slice aoLX 1 cLX) [m1] from ListOk.keep LXwpb.out (kept_setCell (Nat.not_le_of_lt mLX_RO)))
  have HBwpc := Lib.hid (Below.setCell (p := ⟨w2.heap.size + 1, 0, none⟩) HBwpb.out gRO (.slice aoLX 1 cLX))
  generalize hgen : wpb.setCell ⟨w2.heap.size + 1, 0, none⟩ (.slice aoLX 1 cLX) = wpc at *
  clear hgen
  have HIO := Lib.hid (out_info (.slice aoLX 1 cLX) (.slice none 0 0))
  have HIPQ := Lib.hid (pair_info A1 B0)
  go_wp2_with (first
    | (with_reducible refine wpList_load_row rfl 28 (.tmp 10) rfl (w2.heap.size) rfl 28 (pairCells A1 B0) (0, 0) _ RSwpc.out Try.underlying28 rfl HIPQ.out ?_)
    | (with_reducible refine wpList_load_row rfl 40 (.tmp 12) rfl (w2.heap.size + 1) rfl 40 #[(.slice aoLX 1 cLX), (.slice none 0 0)] (0, 0) _ ROwpc.out Try.underlying40 rfl HIO.out ?_))
  refine (passed_of HP.out (.slice aoLX 1 cLX) (.slice none 0 0) YA.out YB.out (one_ok HG1.out) no_ok (show 1 + 0 ≤ 800 by decide) _ LXwpc.out.listIn (listIn_nil _)).mono ?_
  rintro e w5 ⟨rfl, hb⟩
  have RSw5 := Lib.hid (show w5.heap[w2.heap.size]? = some (.cells (pairCells A1 B0) 28) from row_below hb RSwpc.out)
  have lRSw5 : w2.heap.size < w5.heap.size := row_lt RSw5.out
  have ROw5 := Lib.hid (show w5.heap[w2.heap.size + 1]? = some (.cells #[(.slice aoLX 1 cLX), (.slice none 0 0)] 40) from row_below hb ROwpc.out)
  have lROw5 : w2.heap.size + 1 < w5.heap.size := row_lt ROw5.out
  have RA1w5 := Lib.hid (show w5.heap[w3.heap.size]? = some (.cells A1.cells 27) from row_below hb RA1wpc.out)
  have lRA1w5 : w3.heap.size < w5.heap.size := row_lt RA1w5.out
  have LXw5 := Lib.hid (show ListOk (fun b => w2.heap.size + 1 + 1 ≤ b) w5 (.slice aoLX 1 cLX) [m1] from ListOk.keep LXwpc.out (kept_below hb))
  have HBw5 := Lib.hid (below_step HBwpc.out hb)
  clear hb
  go_upto_region 13 with ((with_reducible refine wpList_store_rowTo rfl 28 (.tmp 10) (.tmp 70) rfl rfl (w2.heap.size) (pairCells pa pb) ?_ ?_ 28 ((pairCells A1 B0)) RSw5.out HIPP.out rfl (pair_one _ _) ?_); (as_aux_lemma => kernel_rfl); (as_aux_lemma => kernel_rfl))
  have RSw6 := Lib.hid (show (w5.setRow (w2.heap.size) (pairCells pa pb)).heap[w2.heap.size]? = some (.cells (pairCells pa pb) 28) from setRow_heap _ _ _ _ _ _ RSw5.out)
  have lRSw6 : w2.heap.size < (w5.setRow (w2.heap.size) (pairCells pa pb)).heap.size := row_lt RSw6.out
  have HBw6 := Lib.hid (below_setRow' HBw5.out gRS (pairCells pa pb))
  generalize hgen : w5.setRow (w2.heap.size) (pairCells pa pb) = w6 at *
  clear hgen
  go_wp2_with (((with_reducible refine wpList_load_subG ?_ 28 (.tmp 10) rfl (w2.heap.size) 0 rfl (pairCells pa pb) _ (range_row RSw6.out) Try.underlying28 rfl HIPP.out ?_); (as_aux_lemma => kernel_rfl)))
  refine (paired_any pa pb _).mono ?_
  rintro e w7 ⟨rfl, hb⟩
  have RSw7 := Lib.hid (show w7.heap[w2.heap.size]? = some (.cells (pairCells pa pb) 28) from row_below hb RSw6.out)
  have lRSw7 : w2.heap.size < w7.heap.size := row_lt RSw7.out
  have HBw7 := Lib.hid (below_step HBw6.out hb)
  clear hb
  simp only [HPP.out]
  go_wp2_with (((with_reducible refine wpList_load_sub rfl 27 (.tmp 92) rfl (w2.heap.size) 0 rfl pa.cells _ (range_pair0 RSw7.out) Try.underlying27 rfl HIpa.out ?_)))
  refine (CC.out _).mono ?_
  rintro e w8 ⟨v1, rfl, hO, hb⟩
  have RSw8 := Lib.hid (show w8.heap[w2.heap.size]? = some (.cells (pairCells pa pb) 28) from row_below hb RSw7.out)
  have lRSw8 : w2.heap.size < w8.heap.size := row_lt RSw8.out
  have HBw8 := Lib.hid (below_step HBw7.out hb)
  clear hb
  have mLZ_RS : w2.heap.size < w7.heap.size := lRSw7
  have hqLZ : ListOk (fun b => w7.heap.size ≤ b) w8 v1 [m3] := (hO.listOk (one_ok HG3.out) (Nat.le_trans (show _ ≤ 2 by first | (show 1 ≤ 2; decide) | (show 0 ≤ 2; decide) | (show 2 ≤ 2; decide)) (by unfold maxLen; decide))).mono (fun b q => Nat.le_trans (by first | exact Nat.le_refl _ | (simp only [World.size_alloc]; exact Nat.le_refl _)) q)
  obtain ⟨aoLZ, cLZ, rfl, hq1LZ, hq2LZ, hq3LZ⟩ := hqLZ
  have LZw8 := Lib.hid (show ListOk (fun b => w7.heap.size ≤ b) w8 (.slice aoLZ 1 cLZ) [m3] from ⟨aoLZ, cLZ, rfl, hq1LZ, hq2LZ, hq3LZ⟩)
  clear hO hq1LZ hq2LZ hq3LZ
  have nRS_RC : w2.heap.size < w8.heap.size := lRSw8
  have gRC : w.heap.size ≤ w8.heap.size := by have hh := Below.size HBw8.out; exact hh
  go_upto_region 19 with ((with_reducible refine wpList_store_rowTo rfl 27 (.tmp 21) (.tmp 95) rfl rfl (w8.heap.size) (kc.cells) ?_ ?_ 27 #[.int .u8 0, .int .u8 0, .int .u8 0, .int .u8 0, .int .u8 0, .int .u8 0, .int .u8 0, .int .u8 0, .int .u8 0, .int .u8 0, .int .u8 0, .int .u8 0, .int .u8 0, .int .i64 0, .int .i64 0, .int .i64 0, .int .i64 0] (heap_alloc_at rfl) HIkc.out rfl (one_cells _) ?_); (as_aux_lemma => kernel_rfl); (as_aux_lemma => kernel_rfl); rw [setRow_allocAt rfl])
  obtain ⟨w9, hwq⟩ : ∃ wq, wq = (w8.alloc (.cells kc.cells 27)) := ⟨_, rfl⟩
  rw [← hwq]
  have hb : Below ((w8.alloc (.cells kc.cells 27))).heap.size (w8.alloc (.cells kc.cells 27)) w9 := by rw [hwq]; exact Below.refl _ _
  clear hwq
  have RSw9 := Lib.hid (show w9.heap[w2.heap.size]? = some (.cells (pairCells pa pb) 28) from row_below hb (row_alloc RSw8.out))
  have lRSw9 : w2.heap.size < w9.heap.size := row_lt RSw9.out
  have RCw9 := Lib.hid (show w9.heap[w8.heap.size]? = some (.cells kc.cells 27) from row_below hb (heap_alloc_at rfl))
  have lRCw9 : w8.heap.size < w9.heap.size := row_lt RCw9.out
  have LZw9 := Lib.hid (show ListOk (fun b => w7.heap.size ≤ b) w9 (.slice aoLZ 1 cLZ) [m3] from ListOk.keep (ListOk.keep LZw8.out (kept_below ((Below.refl _ _).alloc (Nat.le_refl _) _))) (kept_below hb))
  have HBw9 := Lib.hid (below_step (below_more HBw8.out (.cells kc.cells 27)) hb)
  clear hb
  obtain ⟨zb, zo, zm, rfl, hzb, hzm, hzi⟩ := ListOk.one LZw9.out
  have HZI := Lib.hid hzi
  clear hzi
  go_cut [24, 25, 26] (fun t10 t11 t12 wx => ∃ T v2, t10 = .pointer (some ⟨T, 0, none⟩) ∧ t11 = v2 ∧ t12 = .int .i64 0 ∧ w9.heap.size ≤ T ∧ wx.heap[T]? = some (.cells kd.cells 27) ∧ Below w9.heap.size w9 wx ∧ ListOk (fun b => w9.heap.size ≤ b) wx v2 [m4])
  case first =>
    refine wp_region_held_drew (S := fun w' => Below w9.heap.size w9 w') (by kernel_rfl) ((Below.refl _ _).drew) (fun hHeld => ?_)
    refine wpAnyH_take (i := 0) (v := .int .i64 0) rfl (by kernel_rfl) (by kernel_rfl) (by kernel_rfl) (fun _ _ _ h => h) (Or.inl ⟨by rfl, by intro w hSw; clear hHeld hSw; go_simp; (try rfl)⟩) (by assumption) ?_
    simp only [Act.put, List.setIfInBounds_toArray, List.set_cons_zero, List.set_cons_succ, List.getElem_toArray, List.getElem_cons_succ, List.getElem_cons_zero]
    refine wpAnyH_take (i := 1) (v := .int .i64 1) rfl (by kernel_rfl) (by kernel_rfl) (by kernel_rfl) (fun _ _ _ h => h) (Or.inl ⟨by rfl, by intro w hSw; clear hHeld hSw; go_simp; (try rfl)⟩) (by assumption) ?_
    simp only [Act.put, List.setIfInBounds_toArray, List.set_cons_zero, List.set_cons_succ, List.getElem_toArray, List.getElem_cons_succ, List.getElem_cons_zero]
    refine wpAnyH_take (i := 2) (v := .pointer (some ⟨w2.heap.size, 17, none⟩)) rfl (by kernel_rfl) (by kernel_rfl) (by kernel_rfl) (fun _ _ _ h => h) (Or.inl ⟨by rfl, by intro w hSw; clear hHeld hSw; go_simp; (try rfl)⟩) (by assumption) ?_
    simp only [Act.put, List.setIfInBounds_toArray, List.set_cons_zero, List.set_cons_succ, List.getElem_toArray, List.getElem_cons_succ, List.getElem_cons_zero]
    refine wpAnyH_take (i := 3) (v := .agg pb.cells) rfl (by kernel_rfl) (by kernel_rfl) (by kernel_rfl) (fun _ _ _ h => h) (yields_sub (by rfl) 27 _ rfl (w2.heap.size) 17 (by rfl) pb.cells _ (fun w' h' => range_pair1 (row_below h' RSw9.out)) Try.underlying27 rfl HIpb.out) (by assumption) ?_
    simp only [Act.put, List.setIfInBounds_toArray, List.set_cons_zero, List.set_cons_succ, List.getElem_toArray, List.getElem_cons_succ, List.getElem_cons_zero]
    refine wpAnyH_take (i := 4) (v := .slice (some ⟨zb, zo, none⟩) 1 cLZ) rfl (by kernel_rfl) (by kernel_rfl) (by kernel_rfl) (fun _ _ _ h => h) (Or.inl ⟨by rfl, by intro w hSw; clear hHeld hSw; go_simp; (try rfl)⟩) (by assumption) ?_
    simp only [Act.put, List.setIfInBounds_toArray, List.set_cons_zero, List.set_cons_succ, List.getElem_toArray, List.getElem_cons_succ, List.getElem_cons_zero]
    refine wpAnyH_take (i := 5) (v := .pointer (some ⟨zb, zo, none⟩)) rfl (by kernel_rfl) (by kernel_rfl) (by kernel_rfl) (fun _ _ _ h => h) (Or.inl ⟨by rfl, by intro w hSw; clear hHeld hSw; go_simp; (try rfl)⟩) (by assumption) ?_
    simp only [Act.put, List.setIfInBounds_toArray, List.set_cons_zero, List.set_cons_succ, List.getElem_toArray, List.getElem_cons_succ, List.getElem_cons_zero]
    refine wpAnyH_take (i := 6) (v := zm) rfl (by kernel_rfl) (by kernel_rfl) (by kernel_rfl) (fun _ _ _ h => h) (Or.inl ⟨by rfl, by intro w hSw; have tq := below_kept hSw hzm; clear hHeld hSw; go_simp⟩) (by assumption) ?_
    simp only [Act.put, List.setIfInBounds_toArray, List.set_cons_zero, List.set_cons_succ, List.getElem_toArray, List.getElem_cons_succ, List.getElem_cons_zero]
    refine wpAnyH_ready (rs := [7, 12]) (by kernel_rfl) (by simp) ?_
    refine AllReadyH.cons (i := 7) (rs := [12]) rfl ?_ (AllReadyH.cons (i := 12) (rs := []) rfl ?_ AllReadyH.nil)
    · intro Kq hKq
      simp only [List.getElem_toArray, List.getElem_cons_succ, List.getElem_cons_zero]
      rw [if_pos (by rfl)]
      have HSZ0 : w9.heap.size ≤ (w9.drew).heap.size := hHeld.size
      refine wp_call_fn 20 #[.agg pb.cells, zm, .int .i64 10] (_) (by as_aux_lemma => kernel_rfl) (CH.out _ zm HZI.out) ?_
      rintro e w1 ⟨v2, rfl, hO, hb⟩
      refine ⟨.tuple #[.agg kd.cells, v2, .int .i64 0], rfl, ?_⟩
      have HB1 := Lib.hid (hHeld.trans (hb.mono HSZ0))
      have HBZ : w9.heap.size ≤ w1.heap.size := HB1.out.size
      refine hKq.out _ _ (HB1.out) (fun hHeld2 => ?_)
      clear hKq Kq hHeld
      have hHeld := hHeld2
      clear hHeld2
      simp only [Act.put, List.setIfInBounds_toArray, List.set_cons_zero, List.set_cons_succ]
      refine wpAnyH_take (i := 8) (v := .tuple #[.agg kd.cells, v2, .int .i64 0]) rfl (by kernel_rfl) (by kernel_rfl) (by kernel_rfl) (fun _ _ _ h => h) (Or.inl ⟨by rfl, by intro w hSw; clear hHeld hSw; go_simp; (try rfl)⟩) (by assumption) ?_
      simp only [Act.put, List.setIfInBounds_toArray, List.set_cons_zero, List.set_cons_succ, List.getElem_toArray, List.getElem_cons_succ, List.getElem_cons_zero]
      refine wpAnyH_take (i := 9) (v := .agg kd.cells) rfl (by kernel_rfl) (by kernel_rfl) (by kernel_rfl) (fun _ _ _ h => h) (Or.inl ⟨by rfl, by intro w hSw; clear hHeld hSw; go_simp; (try rfl)⟩) (by assumption) ?_
      simp only [Act.put, List.setIfInBounds_toArray, List.set_cons_zero, List.set_cons_succ, List.getElem_toArray, List.getElem_cons_succ, List.getElem_cons_zero]
      refine wpAnyH_take (i := 10) (v := v2) rfl (by kernel_rfl) (by kernel_rfl) (by kernel_rfl) (fun _ _ _ h => h) (Or.inl ⟨by rfl, by intro w hSw; clear hHeld hSw; go_simp; (try rfl)⟩) (by assumption) ?_
      simp only [Act.put, List.setIfInBounds_toArray, List.set_cons_zero, List.set_cons_succ, List.getElem_toArray, List.getElem_cons_succ, List.getElem_cons_zero]
      refine wpAnyH_take (i := 11) (v := .int .i64 0) rfl (by kernel_rfl) (by kernel_rfl) (by kernel_rfl) (fun _ _ _ h => h) (Or.inl ⟨by rfl, by intro w hSw; clear hHeld hSw; go_simp; (try rfl)⟩) (by assumption) ?_
      simp only [Act.put, List.setIfInBounds_toArray, List.set_cons_zero, List.set_cons_succ, List.getElem_toArray, List.getElem_cons_succ, List.getElem_cons_zero]
      refine wpAnyH_ready (rs := [12]) (by kernel_rfl) (by simp) ?_
      refine AllReadyH.cons (i := 12) (rs := []) rfl ?_ AllReadyH.nil
      intro Kq hKq
      simp only [List.getElem_toArray, List.getElem_cons_succ, List.getElem_cons_zero]
      rw [if_pos (by rfl)]
      have HTA : w9.heap.size ≤ w1.heap.size := hHeld.size
      refine wp_op_value (.pointer (some ⟨w1.heap.size, 0, none⟩)) (w1.alloc (.cells #[.int .u8 0, .int .u8 0, .int .u8 0, .int .u8 0, .int .u8 0, .int .u8 0, .int .u8 0, .int .u8 0, .int .u8 0, .int .u8 0, .int .u8 0, .int .u8 0, .int .u8 0, .int .i64 0, .int .i64 0, .int .i64 0, .int .i64 0] 27)) (by as_aux_lemma => kernel_rfl) ?_
      refine hKq.out _ _ ((hHeld.alloc hHeld.size _)) (fun hHeld2 => ?_)
      clear hKq Kq hHeld
      have hHeld := hHeld2
      clear hHeld2
      simp only [Act.put, List.setIfInBounds_toArray, List.set_cons_zero, List.set_cons_succ]
      have HBA := Lib.hid (show Below w9.heap.size w9 (w1.alloc (.cells kd.cells 27)) from HB1.out.alloc HBZ _)
      refine wpAnyH_ready (rs := [13]) (by kernel_rfl) (by simp) ?_
      refine AllReadyH.cons (i := 13) (rs := []) rfl ?_ AllReadyH.nil
      intro Kq hKq
      simp only [List.getElem_toArray, List.getElem_cons_succ, List.getElem_cons_zero]
      rw [if_pos (by rfl)]
      refine wp_store_row 27 (.tmp 24) (.tmp 114) (by rfl) (w1.heap.size) kd.cells (by as_aux_lemma => kernel_rfl) (by as_aux_lemma => kernel_rfl) 27 #[.int .u8 0, .int .u8 0, .int .u8 0, .int .u8 0, .int .u8 0, .int .u8 0, .int .u8 0, .int .u8 0, .int .u8 0, .int .u8 0, .int .u8 0, .int .u8 0, .int .u8 0, .int .i64 0, .int .i64 0, .int .i64 0, .int .i64 0] (heap_alloc_new _ _) HIkd.out (by as_aux_lemma => kernel_rfl) (one_cells _) ?_
      rw [setRow_alloc]
      refine hKq.out _ _ (HBA.out) (fun hHeld2 => ?_)
      clear hKq Kq hHeld
      have hHeld := hHeld2
      clear hHeld2
      simp only [Act.put, List.setIfInBounds_toArray, List.set_cons_zero, List.set_cons_succ]
      refine wpAnyH_take (i := 14) (v := v2) rfl (by kernel_rfl) (by kernel_rfl) (by kernel_rfl) (fun _ _ _ h => h) (Or.inl ⟨by rfl, by intro w hSw; clear hHeld hSw; go_simp; (try rfl)⟩) (by assumption) ?_
      simp only [Act.put, List.setIfInBounds_toArray, List.set_cons_zero, List.set_cons_succ, List.getElem_toArray, List.getElem_cons_succ, List.getElem_cons_zero]
      refine wpAnyH_take (i := 15) (v := .int .i64 0) rfl (by kernel_rfl) (by kernel_rfl) (by kernel_rfl) (fun _ _ _ h => h) (Or.inl ⟨by rfl, by intro w hSw; clear hHeld hSw; go_simp; (try rfl)⟩) (by assumption) ?_
      simp only [Act.put, List.setIfInBounds_toArray, List.set_cons_zero, List.set_cons_succ, List.getElem_toArray, List.getElem_cons_succ, List.getElem_cons_zero]
      clear hHeld
      refine wpAnyH_done (by kernel_rfl) ?_ _
      have HT : w9.heap.size ≤ w1.heap.size ∧ (w1.alloc (.cells kd.cells 27)).heap[w1.heap.size]? = some (.cells kd.cells 27) ∧ Below w9.heap.size w9 (w1.alloc (.cells kd.cells 27)) ∧ ListOk (fun b => w9.heap.size ≤ b) (w1.alloc (.cells kd.cells 27)) v2 [m4] := ⟨HBZ, heap_alloc_new _ _, HBA.out, ((hO.listOk (one_ok HG4.out) (Nat.le_trans (show 1 ≤ 2 by decide) (by unfold maxLen; decide))).mono (fun b q => Nat.le_trans HSZ0 q)).keep (kept_below ((Below.refl _ _).alloc (Nat.le_refl _) _))⟩
      go_wp2_with fail
      go_meet
      case rel => exact ⟨_, _, rfl, rfl, rfl, HT⟩
    · intro Kq hKq
      simp only [List.getElem_toArray, List.getElem_cons_succ, List.getElem_cons_zero]
      rw [if_pos (by rfl)]
      have HTA : w9.heap.size ≤ w9.heap.size := hHeld.size
      refine wp_op_value (.pointer (some ⟨w9.heap.size, 0, none⟩)) (w9.drew.alloc (.cells #[.int .u8 0, .int .u8 0, .int .u8 0, .int .u8 0, .int .u8 0, .int .u8 0, .int .u8 0, .int .u8 0, .int .u8 0, .int .u8 0, .int .u8 0, .int .u8 0, .int .u8 0, .int .i64 0, .int .i64 0, .int .i64 0, .int .i64 0] 27)) (by as_aux_lemma => kernel_rfl) ?_
      refine hKq.out _ _ ((hHeld.alloc hHeld.size _)) (fun hHeld2 => ?_)
      clear hKq Kq hHeld
      have hHeld := hHeld2
      clear hHeld2
      simp only [Act.put, List.setIfInBounds_toArray, List.set_cons_zero, List.set_cons_succ]
      refine wpAnyH_ready (rs := [7]) (by kernel_rfl) (by simp) ?_
      refine AllReadyH.cons (i := 7) (rs := []) rfl ?_ AllReadyH.nil
      intro Kq hKq
      simp only [List.getElem_toArray, List.getElem_cons_succ, List.getElem_cons_zero]
      rw [if_pos (by rfl)]
      have HSZ0 : w9.heap.size ≤ ((w9.drew.alloc (.cells #[.int .u8 0, .int .u8 0, .int .u8 0, .int .u8 0, .int .u8 0, .int .u8 0, .int .u8 0, .int .u8 0, .int .u8 0, .int .u8 0, .int .u8 0, .int .u8 0, .int .u8 0, .int .i64 0, .int .i64 0, .int .i64 0, .int .i64 0] 27))).heap.size := hHeld.size
      refine wp_call_fn 20 #[.agg pb.cells, zm, .int .i64 10] (_) (by as_aux_lemma => kernel_rfl) (CH.out _ zm (HZI.out.below ((Below.refl _ _).drew.alloc (Nat.le_refl _) _))) ?_
      rintro e w1 ⟨v2, rfl, hO, hb⟩
      refine ⟨.tuple #[.agg kd.cells, v2, .int .i64 0], rfl, ?_⟩
      have HB1 := Lib.hid (hHeld.trans (hb.mono HSZ0))
      have HBZ : w9.heap.size ≤ w1.heap.size := HB1.out.size
      refine hKq.out _ _ (HB1.out) (fun hHeld2 => ?_)
      clear hKq Kq hHeld
      have hHeld := hHeld2
      clear hHeld2
      simp only [Act.put, List.setIfInBounds_toArray, List.set_cons_zero, List.set_cons_succ]
      have HRT := Lib.hid (row_below hb (heap_alloc_new _ _))
      have HTL : w9.heap.size < ((w9.drew.alloc (.cells #[.int .u8 0, .int .u8 0, .int .u8 0, .int .u8 0, .int .u8 0, .int .u8 0, .int .u8 0, .int .u8 0, .int .u8 0, .int .u8 0, .int .u8 0, .int .u8 0, .int .u8 0, .int .i64 0, .int .i64 0, .int .i64 0, .int .i64 0] 27))).heap.size := lt_alloc _ _
      refine wpAnyH_take (i := 8) (v := .tuple #[.agg kd.cells, v2, .int .i64 0]) rfl (by kernel_rfl) (by kernel_rfl) (by kernel_rfl) (fun _ _ _ h => h) (Or.inl ⟨by rfl, by intro w hSw; clear hHeld hSw; go_simp; (try rfl)⟩) (by assumption) ?_
      simp only [Act.put, List.setIfInBounds_toArray, List.set_cons_zero, List.set_cons_succ, List.getElem_toArray, List.getElem_cons_succ, List.getElem_cons_zero]
      refine wpAnyH_take (i := 9) (v := .agg kd.cells) rfl (by kernel_rfl) (by kernel_rfl) (by kernel_rfl) (fun _ _ _ h => h) (Or.inl ⟨by rfl, by intro w hSw; clear hHeld hSw; go_simp; (try rfl)⟩) (by assumption) ?_
      simp only [Act.put, List.setIfInBounds_toArray, List.set_cons_zero, List.set_cons_succ, List.getElem_toArray, List.getElem_cons_succ, List.getElem_cons_zero]
      refine wpAnyH_take (i := 10) (v := v2) rfl (by kernel_rfl) (by kernel_rfl) (by kernel_rfl) (fun _ _ _ h => h) (Or.inl ⟨by rfl, by intro w hSw; clear hHeld hSw; go_simp; (try rfl)⟩) (by assumption) ?_
      simp only [Act.put, List.setIfInBounds_toArray, List.set_cons_zero, List.set_cons_succ, List.getElem_toArray, List.getElem_cons_succ, List.getElem_cons_zero]
      refine wpAnyH_take (i := 11) (v := .int .i64 0) rfl (by kernel_rfl) (by kernel_rfl) (by kernel_rfl) (fun _ _ _ h => h) (Or.inl ⟨by rfl, by intro w hSw; clear hHeld hSw; go_simp; (try rfl)⟩) (by assumption) ?_
      simp only [Act.put, List.setIfInBounds_toArray, List.set_cons_zero, List.set_cons_succ, List.getElem_toArray, List.getElem_cons_succ, List.getElem_cons_zero]
      have HBA := Lib.hid (show Below w9.heap.size w9 (w1.setRow (w9.heap.size) kd.cells) from below_setRow' HB1.out HTA _)
      refine wpAnyH_ready (rs := [13]) (by kernel_rfl) (by simp) ?_
      refine AllReadyH.cons (i := 13) (rs := []) rfl ?_ AllReadyH.nil
      intro Kq hKq
      simp only [List.getElem_toArray, List.getElem_cons_succ, List.getElem_cons_zero]
      rw [if_pos (by rfl)]
      refine wp_store_row 27 (.tmp 24) (.tmp 114) (by rfl) (w9.heap.size) kd.cells (by as_aux_lemma => kernel_rfl) (by as_aux_lemma => kernel_rfl) 27 #[.int .u8 0, .int .u8 0, .int .u8 0, .int .u8 0, .int .u8 0, .int .u8 0, .int .u8 0, .int .u8 0, .int .u8 0, .int .u8 0, .int .u8 0, .int .u8 0, .int .u8 0, .int .i64 0, .int .i64 0, .int .i64 0, .int .i64 0] HRT.out HIkd.out (by as_aux_lemma => kernel_rfl) (one_cells _) ?_
      refine hKq.out _ _ (HBA.out) (fun hHeld2 => ?_)
      clear hKq Kq hHeld
      have hHeld := hHeld2
      clear hHeld2
      simp only [Act.put, List.setIfInBounds_toArray, List.set_cons_zero, List.set_cons_succ]
      refine wpAnyH_take (i := 14) (v := v2) rfl (by kernel_rfl) (by kernel_rfl) (by kernel_rfl) (fun _ _ _ h => h) (Or.inl ⟨by rfl, by intro w hSw; clear hHeld hSw; go_simp; (try rfl)⟩) (by assumption) ?_
      simp only [Act.put, List.setIfInBounds_toArray, List.set_cons_zero, List.set_cons_succ, List.getElem_toArray, List.getElem_cons_succ, List.getElem_cons_zero]
      refine wpAnyH_take (i := 15) (v := .int .i64 0) rfl (by kernel_rfl) (by kernel_rfl) (by kernel_rfl) (fun _ _ _ h => h) (Or.inl ⟨by rfl, by intro w hSw; clear hHeld hSw; go_simp; (try rfl)⟩) (by assumption) ?_
      simp only [Act.put, List.setIfInBounds_toArray, List.set_cons_zero, List.set_cons_succ, List.getElem_toArray, List.getElem_cons_succ, List.getElem_cons_zero]
      clear hHeld
      refine wpAnyH_done (by kernel_rfl) ?_ _
      have HT : w9.heap.size ≤ w9.heap.size ∧ (w1.setRow (w9.heap.size) kd.cells).heap[w9.heap.size]? = some (.cells kd.cells 27) ∧ Below w9.heap.size w9 (w1.setRow (w9.heap.size) kd.cells) ∧ ListOk (fun b => w9.heap.size ≤ b) (w1.setRow (w9.heap.size) kd.cells) v2 [m4] := ⟨HTA, setRow_heap _ _ _ _ _ _ HRT.out, HBA.out, ((hO.setRow (w9.heap.size) HTL kd.cells).listOk (one_ok HG4.out) (Nat.le_trans (show 1 ≤ 2 by decide) (by unfold maxLen; decide))).mono (fun b q => Nat.le_trans HSZ0 q)⟩
      go_wp2_with fail
      go_meet
      case rel => exact ⟨_, _, rfl, rfl, rfl, HT⟩
  case rest =>
    obtain ⟨T, v2, rfl, rfl, rfl, hT, rT, hb, lx⟩ := hcut
    obtain ⟨ao7, n7, c7, rfl⟩ : ∃ ao n c, u25 = .slice ao n c := by obtain ⟨ao, c, e, _⟩ := lx; exact ⟨ao, _, c, e⟩
    obtain ⟨yb, yo, ym, e7, hyb, hym, hyi⟩ := lx.one
    obtain ⟨_, _, e8, _⟩ := lx
    cases e8
    subst e7
    have RT := Lib.hid rT
    have HYI := Lib.hid hyi
    clear rT hyi
    have hTl : T < wc.heap.size := row_lt RT.out
    have RSwc := Lib.hid (show wc.heap[w2.heap.size]? = some (.cells (pairCells pa pb) 28) from row_below hb RSw9.out)
    have lRSwc : w2.heap.size < wc.heap.size := row_lt RSwc.out
    have RCwc := Lib.hid (show wc.heap[w8.heap.size]? = some (.cells kc.cells 27) from row_below hb RCw9.out)
    have lRCwc : w8.heap.size < wc.heap.size := row_lt RCwc.out
    have HBwc := Lib.hid (below_step HBw9.out hb)
    clear hb
    have lRTwc : T < wc.heap.size := hTl
    have nRS_RT : w2.heap.size < T := Nat.lt_of_lt_of_le lRSw9 hT
    have zs : wc.cell? ⟨T, 12, none⟩ = some (.int .u8 5) := by rw [cell_of_row _ _ _ _ _ _ RT.out, lk_st, HST.out]
    go_upto_region 22 with fail
    clear zs
    refine wp_region_held_drew (S := fun w' => w'.heap[w8.heap.size]? = some (.cells kc.cells 27) ∧ w'.cell? ⟨yb, yo, none⟩ = some ym) (by kernel_rfl) (⟨RCwc.out, hym⟩) (fun hHeld => ?_)
    refine wpAnyH_take (i := 0) (v := .int .i64 0) rfl (by kernel_rfl) (by kernel_rfl) (by kernel_rfl) (fun _ _ _ h => h) (Or.inl ⟨by rfl, by intro w hSw; clear hHeld hSw; go_simp; (try rfl)⟩) (by assumption) ?_
    simp only [Act.put, List.setIfInBounds_toArray, List.set_cons_zero, List.set_cons_succ, List.getElem_toArray, List.getElem_cons_succ, List.getElem_cons_zero]
    refine wpAnyH_take (i := 1) (v := .agg kc.cells) rfl (by kernel_rfl) (by kernel_rfl) (by kernel_rfl) (fun _ _ _ h => h) (yields_sub (by rfl) 27 _ rfl (w8.heap.size) 0 (by rfl) kc.cells _ (fun w' h' => range_row h'.1) Try.underlying27 rfl HIkc.out) (by assumption) ?_
    simp only [Act.put, List.setIfInBounds_toArray, List.set_cons_zero, List.set_cons_succ, List.getElem_toArray, List.getElem_cons_succ, List.getElem_cons_zero]
    refine wpAnyH_take (i := 2) (v := .slice (some ⟨yb, yo, none⟩) 1 c7) rfl (by kernel_rfl) (by kernel_rfl) (by kernel_rfl) (fun _ _ _ h => h) (Or.inl ⟨by rfl, by intro w hSw; clear hHeld hSw; go_simp; (try rfl)⟩) (by assumption) ?_
    simp only [Act.put, List.setIfInBounds_toArray, List.set_cons_zero, List.set_cons_succ, List.getElem_toArray, List.getElem_cons_succ, List.getElem_cons_zero]
    refine wpAnyH_take (i := 3) (v := .pointer (some ⟨yb, yo, none⟩)) rfl (by kernel_rfl) (by kernel_rfl) (by kernel_rfl) (fun _ _ _ h => h) (Or.inl ⟨by rfl, by intro w hSw; clear hHeld hSw; go_simp; (try rfl)⟩) (by assumption) ?_
    simp only [Act.put, List.setIfInBounds_toArray, List.set_cons_zero, List.set_cons_succ, List.getElem_toArray, List.getElem_cons_succ, List.getElem_cons_zero]
    refine wpAnyH_take (i := 4) (v := ym) rfl (by kernel_rfl) (by kernel_rfl) (by kernel_rfl) (fun _ _ _ h => h) (Or.inl ⟨by rfl, by intro w hSw; have tq := hSw.2; clear hHeld hSw; go_simp⟩) (by assumption) ?_
    simp only [Act.put, List.setIfInBounds_toArray, List.set_cons_zero, List.set_cons_succ, List.getElem_toArray, List.getElem_cons_succ, List.getElem_cons_zero]
    refine wpAnyH_ready (rs := [5]) (by kernel_rfl) (by simp) ?_
    refine AllReadyH.cons (i := 5) (rs := []) rfl ?_ AllReadyH.nil
    intro Kq hKq
    simp only [List.getElem_toArray, List.getElem_cons_succ, List.getElem_cons_zero]
    rw [if_pos (by rfl)]
    refine wp_call_fn 20 #[.agg kc.cells, ym, .int .i64 10] (_) (by as_aux_lemma => kernel_rfl) (CI.out _ ym HYI.out) ?_
    rintro e w1 ⟨v3, rfl, hO, hb⟩
    refine ⟨.tuple #[.agg ke.cells, v3, .int .i64 0], rfl, ?_⟩
    have HBN := Lib.hid (show Below wc.heap.size wc w1 from (Below.refl _ _).drew.trans hb)
    refine hKq.out _ _ (⟨row_below HBN.out RCwc.out, below_kept HBN.out hym⟩) (fun hHeld2 => ?_)
    clear hKq Kq hHeld
    have hHeld := hHeld2
    clear hHeld2
    simp only [Act.put, List.setIfInBounds_toArray, List.set_cons_zero, List.set_cons_succ]
    refine wpAnyH_take (i := 6) (v := .tuple #[.agg ke.cells, v3, .int .i64 0]) rfl (by kernel_rfl) (by kernel_rfl) (by kernel_rfl) (fun _ _ _ h => h) (Or.inl ⟨by rfl, by intro w hSw; clear hHeld hSw; go_simp; (try rfl)⟩) (by assumption) ?_
    simp only [Act.put, List.setIfInBounds_toArray, List.set_cons_zero, List.set_cons_succ, List.getElem_toArray, List.getElem_cons_succ, List.getElem_cons_zero]
    refine wpAnyH_take (i := 7) (v := .agg ke.cells) rfl (by kernel_rfl) (by kernel_rfl) (by kernel_rfl) (fun _ _ _ h => h) (Or.inl ⟨by rfl, by intro w hSw; clear hHeld hSw; go_simp; (try rfl)⟩) (by assumption) ?_
    simp only [Act.put, List.setIfInBounds_toArray, List.set_cons_zero, List.set_cons_succ, List.getElem_toArray, List.getElem_cons_succ, List.getElem_cons_zero]
    refine wpAnyH_take (i := 8) (v := v3) rfl (by kernel_rfl) (by kernel_rfl) (by kernel_rfl) (fun _ _ _ h => h) (Or.inl ⟨by rfl, by intro w hSw; clear hHeld hSw; go_simp; (try rfl)⟩) (by assumption) ?_
    simp only [Act.put, List.setIfInBounds_toArray, List.set_cons_zero, List.set_cons_succ, List.getElem_toArray, List.getElem_cons_succ, List.getElem_cons_zero]
    refine wpAnyH_take (i := 9) (v := .int .i64 0) rfl (by kernel_rfl) (by kernel_rfl) (by kernel_rfl) (fun _ _ _ h => h) (Or.inl ⟨by rfl, by intro w hSw; clear hHeld hSw; go_simp; (try rfl)⟩) (by assumption) ?_
    simp only [Act.put, List.setIfInBounds_toArray, List.set_cons_zero, List.set_cons_succ, List.getElem_toArray, List.getElem_cons_succ, List.getElem_cons_zero]
    refine wpAnyH_take (i := 10) (v := .pointer (some ⟨w2.heap.size, 0, none⟩)) rfl (by kernel_rfl) (by kernel_rfl) (by kernel_rfl) (fun _ _ _ h => h) (Or.inl ⟨by rfl, by intro w hSw; clear hHeld hSw; go_simp; (try rfl)⟩) (by assumption) ?_
    simp only [Act.put, List.setIfInBounds_toArray, List.set_cons_zero, List.set_cons_succ, List.getElem_toArray, List.getElem_cons_succ, List.getElem_cons_zero]
    have HRN := Lib.hid (row_below HBN.out RSwc.out)
    have HTN := Lib.hid (show w1.there (w2.heap.size) 0 ke.cells.size from there_of_row HRN.out 0 17 (by rw [pair_size]; decide))
    have lyb : w2.heap.size < yb := Nat.lt_of_lt_of_le lRSw9 hyb
    have hKN := kept_setCells (ok := fun b => w2.heap.size < b) (w := w1) (b := w2.heap.size) (o := 0) (vs := ke.cells.toList) (Nat.lt_irrefl _)
    refine wpAnyH_ready (rs := [11]) (by kernel_rfl) (by simp) ?_
    refine AllReadyH.cons (i := 11) (rs := []) rfl ?_ AllReadyH.nil
    intro Kq hKq
    simp only [List.getElem_toArray, List.getElem_cons_succ, List.getElem_cons_zero]
    rw [if_pos (by rfl)]
    refine wp_store_mid 27 (.tmp 139) (.tmp 136) rfl (w2.heap.size) 0 ke.cells (by as_aux_lemma => kernel_rfl) (by as_aux_lemma => kernel_rfl) HTN.out HIke.out (one_cells _) ?_
    refine hKq.out _ _ (⟨(heap_setCells_far _ _ _ _ _ (Nat.ne_of_gt nRS_RC)).trans (row_below HBN.out RCwc.out), kept_cell hKN lyb (below_kept HBN.out hym)⟩) (fun hHeld2 => ?_)
    clear hKq Kq hHeld
    have hHeld := hHeld2
    clear hHeld2
    simp only [Act.put, List.setIfInBounds_toArray, List.set_cons_zero, List.set_cons_succ]
    refine wpAnyH_take (i := 12) (v := .int .i64 0) rfl (by kernel_rfl) (by kernel_rfl) (by kernel_rfl) (fun _ _ _ h => h) (Or.inl ⟨by rfl, by intro w hSw; clear hHeld hSw; go_simp; (try rfl)⟩) (by assumption) ?_
    simp only [Act.put, List.setIfInBounds_toArray, List.set_cons_zero, List.set_cons_succ, List.getElem_toArray, List.getElem_cons_succ, List.getElem_cons_zero]
    clear hHeld
    refine wpAnyH_done (by kernel_rfl) ?_ _
    clear hb hO hym HYI hKN HTN
    have hb := HBN.out
    have RSw1 := Lib.hid (show w1.heap[w2.heap.size]? = some (.cells (pairCells pa pb) 28) from row_below hb RSwc.out)
    have lRSw1 : w2.heap.size < w1.heap.size := row_lt RSw1.out
    have RTw1 := Lib.hid (show w1.heap[T]? = some (.cells kd.cells 27) from row_below hb RT.out)
    have lRTw1 : T < w1.heap.size := row_lt RTw1.out
    have HBw1 := Lib.hid (below_step HBwc.out hb)
    clear hb
    have RSwd := Lib.hid (show (w1.setCells (w2.heap.size) 0 ke.cells.toList).heap[w2.heap.size]? = some (.cells (pairCells ke pb) 28) from (heap_setCells_same _ _ _ _ _ _ RSw1.out).trans (by rw [put_pair0]))
    have lRSwd : w2.heap.size < (w1.setCells (w2.heap.size) 0 ke.cells.toList).heap.size := row_lt RSwd.out
    have RTwd := Lib.hid (show (w1.setCells (w2.heap.size) 0 ke.cells.toList).heap[T]? = some (.cells kd.cells 27) from (heap_setCells_far _ _ _ _ _ (Nat.ne_of_gt nRS_RT)).trans RTw1.out)
    have lRTwd : T < (w1.setCells (w2.heap.size) 0 ke.cells.toList).heap.size := row_lt RTwd.out
    have HBwd := Lib.hid (below_setCells' gRS ke.cells.toList 0 _ _ HBw1.out)
    generalize hgen : w1.setCells (w2.heap.size) 0 ke.cells.toList = wd at *
    clear hgen
    go_wp2_with ((with_reducible refine wpList_load_row rfl 27 (.tmp 24) rfl (T) rfl 27 (kd.cells) (0, 0) _ RTwd.out Try.underlying27 rfl HIkd.out ?_))
    refine (CK.out _).mono ?_
    rintro e wf ⟨v1, rfl, hO, hb⟩
    have RSwf := Lib.hid (show wf.heap[w2.heap.size]? = some (.cells (pairCells ke pb) 28) from row_below hb RSwd.out)
    have lRSwf : w2.heap.size < wf.heap.size := row_lt RSwf.out
    have RTwf := Lib.hid (show wf.heap[T]? = some (.cells kd.cells 27) from row_below hb RTwd.out)
    have lRTwf : T < wf.heap.size := row_lt RTwf.out
    have HBwf := Lib.hid (below_step HBwd.out hb)
    clear hb
    clear hO
    have HTHwf := Lib.hid (show wf.there (w2.heap.size) 17 kf.cells.size from there_of_row RSwf.out 17 17 (by rw [pair_size]; decide))
    go_upto_region 24 with ((with_reducible refine wpList_store_midTo rfl rfl 27 (.tmp 148) (.tmp 145) rfl (w2.heap.size) 17 kf.cells ?_ ?_ HTHwf.out HIkf.out (one_cells _) ?_); (as_aux_lemma => kernel_rfl); (as_aux_lemma => kernel_rfl))
    have RSwg := Lib.hid (show (wf.setCells (w2.heap.size) 17 kf.cells.toList).heap[w2.heap.size]? = some (.cells (pairCells ke kf) 28) from (heap_setCells_same _ _ _ _ _ _ RSwf.out).trans (by rw [put_pair1]))
    have lRSwg : w2.heap.size < (wf.setCells (w2.heap.size) 17 kf.cells.toList).heap.size := row_lt RSwg.out
    have HBwg := Lib.hid (below_setCells' gRS kf.cells.toList 17 _ _ HBwf.out)
    generalize hgen : wf.setCells (w2.heap.size) 17 kf.cells.toList = wg at *
    clear hgen
    have z12 : wg.cell? ⟨w2.heap.size, 12, none⟩ = some (.int .u8 0) := by rw [cell_of_row _ _ _ _ _ _ RSwg.out, pc12, X0.out]
    have z13 : wg.cell? ⟨w2.heap.size, 13, none⟩ = some (.int .i64 (id % 65535 + 1)) := by rw [cell_of_row _ _ _ _ _ _ RSwg.out, pc13, X1.out]
    have z14 : wg.cell? ⟨w2.heap.size, 14, none⟩ = some (.int .i64 0) := by rw [cell_of_row _ _ _ _ _ _ RSwg.out, pc14, X2.out]
    have z29 : wg.cell? ⟨w2.heap.size, 29, none⟩ = some (.int .u8 0) := by rw [cell_of_row _ _ _ _ _ _ RSwg.out, pc29, Y0.out]
    have z30 : wg.cell? ⟨w2.heap.size, 30, none⟩ = some (.int .i64 (other % 65535 + 1)) := by rw [cell_of_row _ _ _ _ _ _ RSwg.out, pc30, Y1.out]
    have z31 : wg.cell? ⟨w2.heap.size, 31, none⟩ = some (.int .i64 0) := by rw [cell_of_row _ _ _ _ _ _ RSwg.out, pc31, Y2.out]
    go_wp2
    go_ret
    exact ⟨rfl, HBwg.out⟩
set_option maxRecDepth 100000 in
set_option maxHeartbeats 8000000 in
theorem settles_01 (id other closer : Int) (hcl : closer % 2 = 1) (hc0 : 0 ≤ closer ∧ closer ≤ 255) (hid : 1 ≤ id ∧ id ≤ 65535) (hot : 1 ≤ other ∧ other ≤ 65535) (A0 B0 A1 B1 pa pb kc kd ke kf : Lk) (m1 m2 m3 m4 : List Int)
    (g1 : MsgOk m1) (g2 : MsgOk m2) (g3 : MsgOk m3) (g4 : MsgOk m4) (yA : A1.By) (yB : B0.By)
    (cE : ∀ w, Calls Try.prog 11 #[.int .i64 id, .int .i64 other] w fun e w' => e = .returned (.tuple #[.agg (pairCells A0 B0), .bool true]) ∧ Below w.heap.size w w')
    (cS : ∀ w, Calls Try.prog 17 #[.agg A0.cells, .int .i64 0] w (Ret3 w A1 [m1] 0))
    (cT : ∀ w, Calls Try.prog 17 #[.agg B0.cells, .int .i64 0] w (Ret3 w B1 [m2] 0))
    (hp : passF 100 A1 B0 [m1] [] 0 = (pa, pb, true)) (hpp : pairedB pa pb = true)
    (cC : ∀ w, Calls Try.prog 19 #[.agg pb.cells, .int .i64 10] w (Ret3 w kc [m3] 0))
    (cH : ∀ w mv, MsgIn w mv m3 → Calls Try.prog 20 #[.agg pa.cells, mv, .int .i64 10] w (Ret3 w kd [m4] 0)) (hst : kd.st = 5)
    (cI : ∀ w mv, MsgIn w mv m4 → Calls Try.prog 20 #[.agg kc.cells, mv, .int .i64 10] w (Ret3 w ke [] 0))
    (cK : ∀ w, Calls Try.prog 21 #[.agg kd.cells, .int .i64 40010] w (Ret3 w kf [] 0))
    (x0 : kf.st = 0) (x1 : kf.id = id % 65535 + 1) (x2 : kf.ot = 0) (y0 : ke.st = 0) (y1 : ke.id = other % 65535 + 1) (y2 : ke.ot = 0) (w : World) :
    Calls Try.prog 4 #[.int .i64 id, .int .i64 other, .bool false, .int .u8 closer] w fun e w' => e = .returned (.bool true) ∧ Below w.heap.size w w' := by
  have CE := Lib.hid cE
  have CS := Lib.hid cS
  have CT := Lib.hid cT
  have HP := Lib.hid hp
  have HPP := Lib.hid hpp
  have CC := Lib.hid cC
  have CH := Lib.hid cH
  have CI := Lib.hid cI
  have CK := Lib.hid cK
  have HG1 := Lib.hid g1
  have HG2 := Lib.hid g2
  have HG3 := Lib.hid g3
  have HG4 := Lib.hid g4
  have YA := Lib.hid yA
  have YB := Lib.hid yB
  have HST := Lib.hid hst
  have X0 := Lib.hid x0
  have X1 := Lib.hid x1
  have X2 := Lib.hid x2
  have Y0 := Lib.hid y0
  have Y1 := Lib.hid y1
  have Y2 := Lib.hid y2
  clear cE cS cT hp hpp cC cH cI cK g1 g2 g3 g4 yA yB hst x0 x1 x2 y0 y1 y2
  have HIA0 := Lib.hid (link_info2 A0)
  have HIB0 := Lib.hid (link_info2 B0)
  have HIA1 := Lib.hid (link_info2 A1)
  have HIB1 := Lib.hid (link_info2 B1)
  have HIpa := Lib.hid (link_info2 pa)
  have HIpb := Lib.hid (link_info2 pb)
  have HIkc := Lib.hid (link_info2 kc)
  have HIkd := Lib.hid (link_info2 kd)
  have HIke := Lib.hid (link_info2 ke)
  have HIkf := Lib.hid (link_info2 kf)
  have HIP0 := Lib.hid (pair_info A0 B0)
  have HIPP := Lib.hid (pair_info pa pb)
  go_enter Try.func4, Try.ntmps4
  go_wp2_with (fail)
  refine (alive_any _).mono ?_
  rintro e w1 ⟨rfl, hb⟩
  have HBw1 := Lib.hid (below_step (Below.refl w.heap.size w) hb)
  clear hb
  go_wp2_with (fail)
  refine (CE.out _).mono ?_
  rintro e w2 ⟨rfl, hb⟩
  have HBw2 := Lib.hid (below_step HBw1.out hb)
  clear hb
  have gRS : w.heap.size ≤ w2.heap.size := by have hh := Below.size HBw2.out; exact hh
  have nRS_RO : w2.heap.size < w2.heap.size + 1 := Nat.lt_succ_self _
  have gRO : w.heap.size ≤ w2.heap.size + 1 := by have hh := Below.size (below_more HBw2.out (.cells (pairCells A0 B0) 28)); simp only [World.size_alloc] at hh; exact hh
  go_wp2_with (first
    | (with_reducible refine wpList_runTo rfl (some 10) rfl (.pointer (some ⟨w2.heap.size, 0, none⟩)) (w2.alloc (.cells zp 28)) (by as_aux_lemma => kernel_rfl) ?_; simp only [Act.put, List.setIfInBounds_toArray, List.set_cons_succ, List.set_cons_zero])
    | ((with_reducible refine wpList_store_rowTo rfl 28 (.tmp 10) (.tmp 32) rfl rfl (w2.heap.size) (pairCells A0 B0) ?_ ?_ 28 zp (heap_alloc_at rfl) HIP0.out rfl (pair_one _ _) ?_); (as_aux_lemma => kernel_rfl); (as_aux_lemma => kernel_rfl); rw [setRow_allocAt rfl])
    | ((with_reducible refine wpList_load_sub rfl 27 (.tmp 42) rfl (w2.heap.size) 0 rfl A0.cells _ (range_pair0 (row_alloc (heap_alloc_at rfl))) Try.underlying27 rfl HIA0.out ?_)))
  refine (CS.out _).mono ?_
  rintro e w3 ⟨v1, rfl, hO, hb⟩
  have RSw3 := Lib.hid (show w3.heap[w2.heap.size]? = some (.cells (pairCells A0 B0) 28) from row_below hb (row_alloc (heap_alloc_at rfl)))
  have lRSw3 : w2.heap.size < w3.heap.size := row_lt RSw3.out
  have ROw3 := Lib.hid (show w3.heap[w2.heap.size + 1]? = some (.cells #[(.slice none 0 0), (.slice none 0 0)] 40) from row_below hb (heap_alloc_at (by simp only [World.size_alloc])))
  have lROw3 : w2.heap.size + 1 < w3.heap.size := row_lt ROw3.out
  have HBw3 := Lib.hid (below_step (below_more (below_more HBw2.out (.cells (pairCells A0 B0) 28)) (.cells #[(.slice none 0 0), (.slice none 0 0)] 40)) hb)
  clear hb
  have mLX_RS : w2.heap.size < w2.heap.size + 1 + 1 := Nat.lt_succ_of_lt (Nat.lt_succ_self _)
  have mLX_RO : w2.heap.size + 1 < w2.heap.size + 1 + 1 := Nat.lt_succ_self _
  have hqLX : ListOk (fun b => w2.heap.size + 1 + 1 ≤ b) w3 v1 [m1] := (hO.listOk (one_ok HG1.out) (Nat.le_trans (show _ ≤ 2 by first | (show 1 ≤ 2; decide) | (show 0 ≤ 2; decide) | (show 2 ≤ 2; decide)) (by unfold maxLen; decide))).mono (fun b q => Nat.le_trans (by first | exact Nat.le_refl _ | (simp only [World.size_alloc]; exact Nat.le_refl _)) q)
  obtain ⟨aoLX, cLX, rfl, hq1LX, hq2LX, hq3LX⟩ := hqLX
  have LXw3 := Lib.hid (show ListOk (fun b => w2.heap.size + 1 + 1 ≤ b) w3 (.slice aoLX 1 cLX) [m1] from ⟨aoLX, cLX, rfl, hq1LX, hq2LX, hq3LX⟩)
  clear hO hq1LX hq2LX hq3LX
  have nRS_RA1 : w2.heap.size < w3.heap.size := lRSw3
  have nRO_RA1 : w2.heap.size + 1 < w3.heap.size := lROw3
  have gRA1 : w.heap.size ≤ w3.heap.size := by have hh := Below.size HBw3.out; exact hh
  go_upto_region 7 with ((with_reducible refine wpList_store_rowTo rfl 27 (.tmp 13) (.tmp 45) rfl rfl (w3.heap.size) (A1.cells) ?_ ?_ 27 #[.int .u8 0, .int .u8 0, .int .u8 0, .int .u8 0, .int .u8 0, .int .u8 0, .int .u8 0, .int .u8 0, .int .u8 0, .int .u8 0, .int .u8 0, .int .u8 0, .int .u8 0, .int .i64 0, .int .i64 0, .int .i64 0, .int .i64 0] (heap_alloc_at rfl) HIA1.out rfl (one_cells _) ?_); (as_aux_lemma => kernel_rfl); (as_aux_lemma => kernel_rfl); rw [setRow_allocAt rfl])
  obtain ⟨wpa, hwq⟩ : ∃ wq, wq = (w3.alloc (.cells A1.cells 27)) := ⟨_, rfl⟩
  rw [← hwq]
  have hb : Below ((w3.alloc (.cells A1.cells 27))).heap.size (w3.alloc (.cells A1.cells 27)) wpa := by rw [hwq]; exact Below.refl _ _
  clear hwq
  have RSwpa := Lib.hid (show wpa.heap[w2.heap.size]? = some (.cells (pairCells A0 B0) 28) from row_below hb (row_alloc RSw3.out))
  have lRSwpa : w2.heap.size < wpa.heap.size := row_lt RSwpa.out
  have ROwpa := Lib.hid (show wpa.heap[w2.heap.size + 1]? = some (.cells #[(.slice none 0 0), (.slice none 0 0)] 40) from row_below hb (row_alloc ROw3.out))
  have lROwpa : w2.heap.size + 1 < wpa.heap.size := row_lt ROwpa.out
  have RA1wpa := Lib.hid (show wpa.heap[w3.heap.size]? = some (.cells A1.cells 27) from row_below hb (heap_alloc_at rfl))
  have lRA1wpa : w3.heap.size < wpa.heap.size := row_lt RA1wpa.out
  have LXwpa := Lib.hid (show ListOk (fun b => w2.heap.size + 1 + 1 ≤ b) wpa (.slice aoLX 1 cLX) [m1] from ListOk.keep (ListOk.keep LXw3.out (kept_below ((Below.refl _ _).alloc (Nat.le_refl _) _))) (kept_below hb))
  have HBwpa := Lib.hid (below_step (below_more HBw3.out (.cells A1.cells 27)) hb)
  clear hb
  have HTHwpa := Lib.hid (show wpa.there (w2.heap.size) 0 A1.cells.size from there_of_row RSwpa.out 0 17 (by rw [pair_size]; decide))
  go_upto_region 8 with (first
    | (with_reducible refine wpList_load_row rfl 27 (.tmp 13) rfl (w3.heap.size) rfl 27 (A1.cells) (0, 0) _ RA1wpa.out Try.underlying27 rfl HIA1.out ?_)
    | ((with_reducible refine wpList_store_midTo rfl rfl 27 (.tmp 50) (.tmp 48) rfl (w2.heap.size) 0 A1.cells ?_ ?_ HTHwpa.out HIA1.out (one_cells _) ?_); (as_aux_lemma => kernel_rfl); (as_aux_lemma => kernel_rfl); have RSwpb := Lib.hid (show (wpa.setCells (w2.heap.size) 0 A1.cells.toList).heap[w2.heap.size]? = some (.cells (pairCells A1 B0) 28) from (heap_setCells_same _ _ _ _ _ _ RSwpa.out).trans (by rw [put_pair0])); have lRSwpb : w2.heap.size < (wpa.setCells (w2.heap.size) 0 A1.cells.toList).heap.size := row_lt RSwpb.out; have ROwpb := Lib.hid (show (wpa.setCells (w2.heap.size) 0 A1.cells.toList).heap[w2.heap.size + 1]? = some (.cells #[(.slice none 0 0), (.slice none 0 0)] 40) from (heap_setCells_far _ _ _ _ _ (Nat.ne_of_gt nRS_RO)).trans ROwpa.out); have lROwpb : w2.heap.size + 1 < (wpa.setCells (w2.heap.size) 0 A1.cells.toList).heap.size := row_lt ROwpb.out; have RA1wpb := Lib.hid (show (wpa.setCells (w2.heap.size) 0 A1.cells.toList).heap[w3.heap.size]? = some (.cells A1.cells 27) from (heap_setCells_far _ _ _ _ _ (Nat.ne_of_gt nRS_RA1)).trans RA1wpa.out); have lRA1wpb : w3.heap.size < (wpa.setCells (w2.heap.size) 0 A1.cells.toList).heap.size := row_lt RA1wpb.out; have LXwpb := Lib.hid (show ListOk (fun b => w2.heap.size + 1 + 1 ≤ b) (wpa.setCells (w2.heap.size) 0 A1.cells.toList) (.slice aoLX 1 cLX) [m1] from ListOk.keep LXwpa.out (kept_setCells (Nat.not_le_of_lt mLX_RS))); have HBwpb := Lib.hid (below_setCells' gRS A1.cells.toList 0 _ _ HBwpa.out); generalize hgen : wpa.setCells (w2.heap.size) 0 A1.cells.toList = wpb at *; clear hgen; have z0wp : wpb.cell? ⟨w2.heap.size + 1, 0, none⟩ = some (.slice none 0 0) := (cell_of_row _ _ _ _ _ _ ROwpb.out).trans rfl; have z1wp : wpb.cell? ⟨w2.heap.size + 1, 1, none⟩ = some (.slice none 0 0) := (cell_of_row _ _ _ _ _ _ ROwpb.out).trans rfl; have zfwp : ∀ o, wpb.frozen? ⟨w2.heap.size + 1, o, none⟩ = false := fun o => frozen_of_row _ _ _ _ _ ROwpb.out))
  have RSwpc := Lib.hid (show (wpb.setCell ⟨w2.heap.size + 1, 0, none⟩ (.slice aoLX 1 cLX)).heap[w2.heap.size]? = some (.cells (pairCells A1 B0) 28) from row_set (Nat.ne_of_lt nRS_RO) RSwpb.out)
  have lRSwpc : w2.heap.size < (wpb.setCell ⟨w2.heap.size + 1, 0, none⟩ (.slice aoLX 1 cLX)).heap.size := row_lt RSwpc.out
  have ROwpc := Lib.hid (show (wpb.setCell ⟨w2.heap.size + 1, 0, none⟩ (.slice aoLX 1 cLX)).heap[w2.heap.size + 1]? = some (.cells #[(.slice aoLX 1 cLX), (.slice none 0 0)] 40) from heap_setCell_same _ _ 0 _ _ _ ROwpb.out)
  have lROwpc : w2.heap.size + 1 < (wpb.setCell ⟨w2.heap.size + 1, 0, none⟩ (.slice aoLX 1 cLX)).heap.size := row_lt ROwpc.out
  have RA1wpc := Lib.hid (show (wpb.setCell ⟨w2.heap.size + 1, 0, none⟩ (.slice aoLX 1 cLX)).heap[w3.heap.size]? = some (.cells A1.cells 27) from row_set (Nat.ne_of_gt nRO_RA1) RA1wpb.out)
  have lRA1wpc : w3.heap.size < (wpb.setCell ⟨w2.heap.size + 1, 0, none⟩ (.slice aoLX 1 cLX)).heap.size := row_lt RA1wpc.out
  have LXwpc := Lib.hid (show ListOk (fun b => w2.heap.size + 1 + 1 ≤ b) (wpb.setCell ⟨w2.heap.size + 1, 0, none⟩ (.slice aoLX 1 cLX)) (.slice aoLX 1 cLX) [m1] from ListOk.keep LXwpb.out (kept_setCell (Nat.not_le_of_lt mLX_RO)))
  have HBwpc := Lib.hid (Below.setCell (p := ⟨w2.heap.size + 1, 0, none⟩) HBwpb.out gRO (.slice aoLX 1 cLX))
  generalize hgen : wpb.setCell ⟨w2.heap.size + 1, 0, none⟩ (.slice aoLX 1 cLX) = wpc at *
  clear hgen
  have HIO := Lib.hid (out_info (.slice aoLX 1 cLX) (.slice none 0 0))
  have HIPQ := Lib.hid (pair_info A1 B0)
  go_wp2_with (first
    | (with_reducible refine wpList_load_row rfl 28 (.tmp 10) rfl (w2.heap.size) rfl 28 (pairCells A1 B0) (0, 0) _ RSwpc.out Try.underlying28 rfl HIPQ.out ?_)
    | (with_reducible refine wpList_load_row rfl 40 (.tmp 12) rfl (w2.heap.size + 1) rfl 40 #[(.slice aoLX 1 cLX), (.slice none 0 0)] (0, 0) _ ROwpc.out Try.underlying40 rfl HIO.out ?_))
  refine (passed_of HP.out (.slice aoLX 1 cLX) (.slice none 0 0) YA.out YB.out (one_ok HG1.out) no_ok (show 1 + 0 ≤ 800 by decide) _ LXwpc.out.listIn (listIn_nil _)).mono ?_
  rintro e w5 ⟨rfl, hb⟩
  have RSw5 := Lib.hid (show w5.heap[w2.heap.size]? = some (.cells (pairCells A1 B0) 28) from row_below hb RSwpc.out)
  have lRSw5 : w2.heap.size < w5.heap.size := row_lt RSw5.out
  have ROw5 := Lib.hid (show w5.heap[w2.heap.size + 1]? = some (.cells #[(.slice aoLX 1 cLX), (.slice none 0 0)] 40) from row_below hb ROwpc.out)
  have lROw5 : w2.heap.size + 1 < w5.heap.size := row_lt ROw5.out
  have RA1w5 := Lib.hid (show w5.heap[w3.heap.size]? = some (.cells A1.cells 27) from row_below hb RA1wpc.out)
  have lRA1w5 : w3.heap.size < w5.heap.size := row_lt RA1w5.out
  have LXw5 := Lib.hid (show ListOk (fun b => w2.heap.size + 1 + 1 ≤ b) w5 (.slice aoLX 1 cLX) [m1] from ListOk.keep LXwpc.out (kept_below hb))
  have HBw5 := Lib.hid (below_step HBwpc.out hb)
  clear hb
  go_upto_region 13 with ((with_reducible refine wpList_store_rowTo rfl 28 (.tmp 10) (.tmp 70) rfl rfl (w2.heap.size) (pairCells pa pb) ?_ ?_ 28 ((pairCells A1 B0)) RSw5.out HIPP.out rfl (pair_one _ _) ?_); (as_aux_lemma => kernel_rfl); (as_aux_lemma => kernel_rfl))
  have RSw6 := Lib.hid (show (w5.setRow (w2.heap.size) (pairCells pa pb)).heap[w2.heap.size]? = some (.cells (pairCells pa pb) 28) from setRow_heap _ _ _ _ _ _ RSw5.out)
  have lRSw6 : w2.heap.size < (w5.setRow (w2.heap.size) (pairCells pa pb)).heap.size := row_lt RSw6.out
  have HBw6 := Lib.hid (below_setRow' HBw5.out gRS (pairCells pa pb))
  generalize hgen : w5.setRow (w2.heap.size) (pairCells pa pb) = w6 at *
  clear hgen
  go_wp2_with (((with_reducible refine wpList_load_subG ?_ 28 (.tmp 10) rfl (w2.heap.size) 0 rfl (pairCells pa pb) _ (range_row RSw6.out) Try.underlying28 rfl HIPP.out ?_); (as_aux_lemma => kernel_rfl)))
  refine (paired_any pa pb _).mono ?_
  rintro e w7 ⟨rfl, hb⟩
  have RSw7 := Lib.hid (show w7.heap[w2.heap.size]? = some (.cells (pairCells pa pb) 28) from row_below hb RSw6.out)
  have lRSw7 : w2.heap.size < w7.heap.size := row_lt RSw7.out
  have HBw7 := Lib.hid (below_step HBw6.out hb)
  clear hb
  simp only [HPP.out]
  go_wp2_with (((with_reducible refine wpList_load_sub rfl 27 (.tmp 92) rfl (w2.heap.size) 17 rfl pb.cells _ (range_pair1 RSw7.out) Try.underlying27 rfl HIpb.out ?_)))
  refine (CC.out _).mono ?_
  rintro e w8 ⟨v1, rfl, hO, hb⟩
  have RSw8 := Lib.hid (show w8.heap[w2.heap.size]? = some (.cells (pairCells pa pb) 28) from row_below hb RSw7.out)
  have lRSw8 : w2.heap.size < w8.heap.size := row_lt RSw8.out
  have HBw8 := Lib.hid (below_step HBw7.out hb)
  clear hb
  have mLZ_RS : w2.heap.size < w7.heap.size := lRSw7
  have hqLZ : ListOk (fun b => w7.heap.size ≤ b) w8 v1 [m3] := (hO.listOk (one_ok HG3.out) (Nat.le_trans (show _ ≤ 2 by first | (show 1 ≤ 2; decide) | (show 0 ≤ 2; decide) | (show 2 ≤ 2; decide)) (by unfold maxLen; decide))).mono (fun b q => Nat.le_trans (by first | exact Nat.le_refl _ | (simp only [World.size_alloc]; exact Nat.le_refl _)) q)
  obtain ⟨aoLZ, cLZ, rfl, hq1LZ, hq2LZ, hq3LZ⟩ := hqLZ
  have LZw8 := Lib.hid (show ListOk (fun b => w7.heap.size ≤ b) w8 (.slice aoLZ 1 cLZ) [m3] from ⟨aoLZ, cLZ, rfl, hq1LZ, hq2LZ, hq3LZ⟩)
  clear hO hq1LZ hq2LZ hq3LZ
  have nRS_RC : w2.heap.size < w8.heap.size := lRSw8
  have gRC : w.heap.size ≤ w8.heap.size := by have hh := Below.size HBw8.out; exact hh
  go_upto_region 19 with ((with_reducible refine wpList_store_rowTo rfl 27 (.tmp 21) (.tmp 95) rfl rfl (w8.heap.size) (kc.cells) ?_ ?_ 27 #[.int .u8 0, .int .u8 0, .int .u8 0, .int .u8 0, .int .u8 0, .int .u8 0, .int .u8 0, .int .u8 0, .int .u8 0, .int .u8 0, .int .u8 0, .int .u8 0, .int .u8 0, .int .i64 0, .int .i64 0, .int .i64 0, .int .i64 0] (heap_alloc_at rfl) HIkc.out rfl (one_cells _) ?_); (as_aux_lemma => kernel_rfl); (as_aux_lemma => kernel_rfl); rw [setRow_allocAt rfl])
  obtain ⟨w9, hwq⟩ : ∃ wq, wq = (w8.alloc (.cells kc.cells 27)) := ⟨_, rfl⟩
  rw [← hwq]
  have hb : Below ((w8.alloc (.cells kc.cells 27))).heap.size (w8.alloc (.cells kc.cells 27)) w9 := by rw [hwq]; exact Below.refl _ _
  clear hwq
  have RSw9 := Lib.hid (show w9.heap[w2.heap.size]? = some (.cells (pairCells pa pb) 28) from row_below hb (row_alloc RSw8.out))
  have lRSw9 : w2.heap.size < w9.heap.size := row_lt RSw9.out
  have RCw9 := Lib.hid (show w9.heap[w8.heap.size]? = some (.cells kc.cells 27) from row_below hb (heap_alloc_at rfl))
  have lRCw9 : w8.heap.size < w9.heap.size := row_lt RCw9.out
  have LZw9 := Lib.hid (show ListOk (fun b => w7.heap.size ≤ b) w9 (.slice aoLZ 1 cLZ) [m3] from ListOk.keep (ListOk.keep LZw8.out (kept_below ((Below.refl _ _).alloc (Nat.le_refl _) _))) (kept_below hb))
  have HBw9 := Lib.hid (below_step (below_more HBw8.out (.cells kc.cells 27)) hb)
  clear hb
  obtain ⟨zb, zo, zm, rfl, hzb, hzm, hzi⟩ := ListOk.one LZw9.out
  have HZI := Lib.hid hzi
  clear hzi
  go_cut [24, 25, 26] (fun t10 t11 t12 wx => ∃ T v2, t10 = .pointer (some ⟨T, 0, none⟩) ∧ t11 = v2 ∧ t12 = .int .i64 0 ∧ w9.heap.size ≤ T ∧ wx.heap[T]? = some (.cells kd.cells 27) ∧ Below w9.heap.size w9 wx ∧ ListOk (fun b => w9.heap.size ≤ b) wx v2 [m4])
  case first =>
    refine wp_region_held_drew (S := fun w' => Below w9.heap.size w9 w') (by kernel_rfl) ((Below.refl _ _).drew) (fun hHeld => ?_)
    refine wpAnyH_take (i := 0) (v := .int .i64 1) rfl (by kernel_rfl) (by kernel_rfl) (by kernel_rfl) (fun _ _ _ h => h) (Or.inl ⟨by rfl, by intro w hSw; clear hHeld hSw; go_simp; (try rfl)⟩) (by assumption) ?_
    simp only [Act.put, List.setIfInBounds_toArray, List.set_cons_zero, List.set_cons_succ, List.getElem_toArray, List.getElem_cons_succ, List.getElem_cons_zero]
    refine wpAnyH_take (i := 1) (v := .int .i64 0) rfl (by kernel_rfl) (by kernel_rfl) (by kernel_rfl) (fun _ _ _ h => h) (Or.inl ⟨by rfl, by intro w hSw; clear hHeld hSw; go_simp; (try rfl)⟩) (by assumption) ?_
    simp only [Act.put, List.setIfInBounds_toArray, List.set_cons_zero, List.set_cons_succ, List.getElem_toArray, List.getElem_cons_succ, List.getElem_cons_zero]
    refine wpAnyH_take (i := 2) (v := .pointer (some ⟨w2.heap.size, 0, none⟩)) rfl (by kernel_rfl) (by kernel_rfl) (by kernel_rfl) (fun _ _ _ h => h) (Or.inl ⟨by rfl, by intro w hSw; clear hHeld hSw; go_simp; (try rfl)⟩) (by assumption) ?_
    simp only [Act.put, List.setIfInBounds_toArray, List.set_cons_zero, List.set_cons_succ, List.getElem_toArray, List.getElem_cons_succ, List.getElem_cons_zero]
    refine wpAnyH_take (i := 3) (v := .agg pa.cells) rfl (by kernel_rfl) (by kernel_rfl) (by kernel_rfl) (fun _ _ _ h => h) (yields_sub (by rfl) 27 _ rfl (w2.heap.size) 0 (by rfl) pa.cells _ (fun w' h' => range_pair0 (row_below h' RSw9.out)) Try.underlying27 rfl HIpa.out) (by assumption) ?_
    simp only [Act.put, List.setIfInBounds_toArray, List.set_cons_zero, List.set_cons_succ, List.getElem_toArray, List.getElem_cons_succ, List.getElem_cons_zero]
    refine wpAnyH_take (i := 4) (v := .slice (some ⟨zb, zo, none⟩) 1 cLZ) rfl (by kernel_rfl) (by kernel_rfl) (by kernel_rfl) (fun _ _ _ h => h) (Or.inl ⟨by rfl, by intro w hSw; clear hHeld hSw; go_simp; (try rfl)⟩) (by assumption) ?_
    simp only [Act.put, List.setIfInBounds_toArray, List.set_cons_zero, List.set_cons_succ, List.getElem_toArray, List.getElem_cons_succ, List.getElem_cons_zero]
    refine wpAnyH_take (i := 5) (v := .pointer (some ⟨zb, zo, none⟩)) rfl (by kernel_rfl) (by kernel_rfl) (by kernel_rfl) (fun _ _ _ h => h) (Or.inl ⟨by rfl, by intro w hSw; clear hHeld hSw; go_simp; (try rfl)⟩) (by assumption) ?_
    simp only [Act.put, List.setIfInBounds_toArray, List.set_cons_zero, List.set_cons_succ, List.getElem_toArray, List.getElem_cons_succ, List.getElem_cons_zero]
    refine wpAnyH_take (i := 6) (v := zm) rfl (by kernel_rfl) (by kernel_rfl) (by kernel_rfl) (fun _ _ _ h => h) (Or.inl ⟨by rfl, by intro w hSw; have tq := below_kept hSw hzm; clear hHeld hSw; go_simp⟩) (by assumption) ?_
    simp only [Act.put, List.setIfInBounds_toArray, List.set_cons_zero, List.set_cons_succ, List.getElem_toArray, List.getElem_cons_succ, List.getElem_cons_zero]
    refine wpAnyH_ready (rs := [7, 12]) (by kernel_rfl) (by simp) ?_
    refine AllReadyH.cons (i := 7) (rs := [12]) rfl ?_ (AllReadyH.cons (i := 12) (rs := []) rfl ?_ AllReadyH.nil)
    · intro Kq hKq
      simp only [List.getElem_toArray, List.getElem_cons_succ, List.getElem_cons_zero]
      rw [if_pos (by rfl)]
      have HSZ0 : w9.heap.size ≤ (w9.drew).heap.size := hHeld.size
      refine wp_call_fn 20 #[.agg pa.cells, zm, .int .i64 10] (_) (by as_aux_lemma => kernel_rfl) (CH.out _ zm HZI.out) ?_
      rintro e w1 ⟨v2, rfl, hO, hb⟩
      refine ⟨.tuple #[.agg kd.cells, v2, .int .i64 0], rfl, ?_⟩
      have HB1 := Lib.hid (hHeld.trans (hb.mono HSZ0))
      have HBZ : w9.heap.size ≤ w1.heap.size := HB1.out.size
      refine hKq.out _ _ (HB1.out) (fun hHeld2 => ?_)
      clear hKq Kq hHeld
      have hHeld := hHeld2
      clear hHeld2
      simp only [Act.put, List.setIfInBounds_toArray, List.set_cons_zero, List.set_cons_succ]
      refine wpAnyH_take (i := 8) (v := .tuple #[.agg kd.cells, v2, .int .i64 0]) rfl (by kernel_rfl) (by kernel_rfl) (by kernel_rfl) (fun _ _ _ h => h) (Or.inl ⟨by rfl, by intro w hSw; clear hHeld hSw; go_simp; (try rfl)⟩) (by assumption) ?_
      simp only [Act.put, List.setIfInBounds_toArray, List.set_cons_zero, List.set_cons_succ, List.getElem_toArray, List.getElem_cons_succ, List.getElem_cons_zero]
      refine wpAnyH_take (i := 9) (v := .agg kd.cells) rfl (by kernel_rfl) (by kernel_rfl) (by kernel_rfl) (fun _ _ _ h => h) (Or.inl ⟨by rfl, by intro w hSw; clear hHeld hSw; go_simp; (try rfl)⟩) (by assumption) ?_
      simp only [Act.put, List.setIfInBounds_toArray, List.set_cons_zero, List.set_cons_succ, List.getElem_toArray, List.getElem_cons_succ, List.getElem_cons_zero]
      refine wpAnyH_take (i := 10) (v := v2) rfl (by kernel_rfl) (by kernel_rfl) (by kernel_rfl) (fun _ _ _ h => h) (Or.inl ⟨by rfl, by intro w hSw; clear hHeld hSw; go_simp; (try rfl)⟩) (by assumption) ?_
      simp only [Act.put, List.setIfInBounds_toArray, List.set_cons_zero, List.set_cons_succ, List.getElem_toArray, List.getElem_cons_succ, List.getElem_cons_zero]
      refine wpAnyH_take (i := 11) (v := .int .i64 0) rfl (by kernel_rfl) (by kernel_rfl) (by kernel_rfl) (fun _ _ _ h => h) (Or.inl ⟨by rfl, by intro w hSw; clear hHeld hSw; go_simp; (try rfl)⟩) (by assumption) ?_
      simp only [Act.put, List.setIfInBounds_toArray, List.set_cons_zero, List.set_cons_succ, List.getElem_toArray, List.getElem_cons_succ, List.getElem_cons_zero]
      refine wpAnyH_ready (rs := [12]) (by kernel_rfl) (by simp) ?_
      refine AllReadyH.cons (i := 12) (rs := []) rfl ?_ AllReadyH.nil
      intro Kq hKq
      simp only [List.getElem_toArray, List.getElem_cons_succ, List.getElem_cons_zero]
      rw [if_pos (by rfl)]
      have HTA : w9.heap.size ≤ w1.heap.size := hHeld.size
      refine wp_op_value (.pointer (some ⟨w1.heap.size, 0, none⟩)) (w1.alloc (.cells #[.int .u8 0, .int .u8 0, .int .u8 0, .int .u8 0, .int .u8 0, .int .u8 0, .int .u8 0, .int .u8 0, .int .u8 0, .int .u8 0, .int .u8 0, .int .u8 0, .int .u8 0, .int .i64 0, .int .i64 0, .int .i64 0, .int .i64 0] 27)) (by as_aux_lemma => kernel_rfl) ?_
      refine hKq.out _ _ ((hHeld.alloc hHeld.size _)) (fun hHeld2 => ?_)
      clear hKq Kq hHeld
      have hHeld := hHeld2
      clear hHeld2
      simp only [Act.put, List.setIfInBounds_toArray, List.set_cons_zero, List.set_cons_succ]
      have HBA := Lib.hid (show Below w9.heap.size w9 (w1.alloc (.cells kd.cells 27)) from HB1.out.alloc HBZ _)
      refine wpAnyH_ready (rs := [13]) (by kernel_rfl) (by simp) ?_
      refine AllReadyH.cons (i := 13) (rs := []) rfl ?_ AllReadyH.nil
      intro Kq hKq
      simp only [List.getElem_toArray, List.getElem_cons_succ, List.getElem_cons_zero]
      rw [if_pos (by rfl)]
      refine wp_store_row 27 (.tmp 24) (.tmp 114) (by rfl) (w1.heap.size) kd.cells (by as_aux_lemma => kernel_rfl) (by as_aux_lemma => kernel_rfl) 27 #[.int .u8 0, .int .u8 0, .int .u8 0, .int .u8 0, .int .u8 0, .int .u8 0, .int .u8 0, .int .u8 0, .int .u8 0, .int .u8 0, .int .u8 0, .int .u8 0, .int .u8 0, .int .i64 0, .int .i64 0, .int .i64 0, .int .i64 0] (heap_alloc_new _ _) HIkd.out (by as_aux_lemma => kernel_rfl) (one_cells _) ?_
      rw [setRow_alloc]
      refine hKq.out _ _ (HBA.out) (fun hHeld2 => ?_)
      clear hKq Kq hHeld
      have hHeld := hHeld2
      clear hHeld2
      simp only [Act.put, List.setIfInBounds_toArray, List.set_cons_zero, List.set_cons_succ]
      refine wpAnyH_take (i := 14) (v := v2) rfl (by kernel_rfl) (by kernel_rfl) (by kernel_rfl) (fun _ _ _ h => h) (Or.inl ⟨by rfl, by intro w hSw; clear hHeld hSw; go_simp; (try rfl)⟩) (by assumption) ?_
      simp only [Act.put, List.setIfInBounds_toArray, List.set_cons_zero, List.set_cons_succ, List.getElem_toArray, List.getElem_cons_succ, List.getElem_cons_zero]
      refine wpAnyH_take (i := 15) (v := .int .i64 0) rfl (by kernel_rfl) (by kernel_rfl) (by kernel_rfl) (fun _ _ _ h => h) (Or.inl ⟨by rfl, by intro w hSw; clear hHeld hSw; go_simp; (try rfl)⟩) (by assumption) ?_
      simp only [Act.put, List.setIfInBounds_toArray, List.set_cons_zero, List.set_cons_succ, List.getElem_toArray, List.getElem_cons_succ, List.getElem_cons_zero]
      clear hHeld
      refine wpAnyH_done (by kernel_rfl) ?_ _
      have HT : w9.heap.size ≤ w1.heap.size ∧ (w1.alloc (.cells kd.cells 27)).heap[w1.heap.size]? = some (.cells kd.cells 27) ∧ Below w9.heap.size w9 (w1.alloc (.cells kd.cells 27)) ∧ ListOk (fun b => w9.heap.size ≤ b) (w1.alloc (.cells kd.cells 27)) v2 [m4] := ⟨HBZ, heap_alloc_new _ _, HBA.out, ((hO.listOk (one_ok HG4.out) (Nat.le_trans (show 1 ≤ 2 by decide) (by unfold maxLen; decide))).mono (fun b q => Nat.le_trans HSZ0 q)).keep (kept_below ((Below.refl _ _).alloc (Nat.le_refl _) _))⟩
      go_wp2_with fail
      go_meet
      case rel => exact ⟨_, _, rfl, rfl, rfl, HT⟩
    · intro Kq hKq
      simp only [List.getElem_toArray, List.getElem_cons_succ, List.getElem_cons_zero]
      rw [if_pos (by rfl)]
      have HTA : w9.heap.size ≤ w9.heap.size := hHeld.size
      refine wp_op_value (.pointer (some ⟨w9.heap.size, 0, none⟩)) (w9.drew.alloc (.cells #[.int .u8 0, .int .u8 0, .int .u8 0, .int .u8 0, .int .u8 0, .int .u8 0, .int .u8 0, .int .u8 0, .int .u8 0, .int .u8 0, .int .u8 0, .int .u8 0, .int .u8 0, .int .i64 0, .int .i64 0, .int .i64 0, .int .i64 0] 27)) (by as_aux_lemma => kernel_rfl) ?_
      refine hKq.out _ _ ((hHeld.alloc hHeld.size _)) (fun hHeld2 => ?_)
      clear hKq Kq hHeld
      have hHeld := hHeld2
      clear hHeld2
      simp only [Act.put, List.setIfInBounds_toArray, List.set_cons_zero, List.set_cons_succ]
      refine wpAnyH_ready (rs := [7]) (by kernel_rfl) (by simp) ?_
      refine AllReadyH.cons (i := 7) (rs := []) rfl ?_ AllReadyH.nil
      intro Kq hKq
      simp only [List.getElem_toArray, List.getElem_cons_succ, List.getElem_cons_zero]
      rw [if_pos (by rfl)]
      have HSZ0 : w9.heap.size ≤ ((w9.drew.alloc (.cells #[.int .u8 0, .int .u8 0, .int .u8 0, .int .u8 0, .int .u8 0, .int .u8 0, .int .u8 0, .int .u8 0, .int .u8 0, .int .u8 0, .int .u8 0, .int .u8 0, .int .u8 0, .int .i64 0, .int .i64 0, .int .i64 0, .int .i64 0] 27))).heap.size := hHeld.size
      refine wp_call_fn 20 #[.agg pa.cells, zm, .int .i64 10] (_) (by as_aux_lemma => kernel_rfl) (CH.out _ zm (HZI.out.below ((Below.refl _ _).drew.alloc (Nat.le_refl _) _))) ?_
      rintro e w1 ⟨v2, rfl, hO, hb⟩
      refine ⟨.tuple #[.agg kd.cells, v2, .int .i64 0], rfl, ?_⟩
      have HB1 := Lib.hid (hHeld.trans (hb.mono HSZ0))
      have HBZ : w9.heap.size ≤ w1.heap.size := HB1.out.size
      refine hKq.out _ _ (HB1.out) (fun hHeld2 => ?_)
      clear hKq Kq hHeld
      have hHeld := hHeld2
      clear hHeld2
      simp only [Act.put, List.setIfInBounds_toArray, List.set_cons_zero, List.set_cons_succ]
      have HRT := Lib.hid (row_below hb (heap_alloc_new _ _))
      have HTL : w9.heap.size < ((w9.drew.alloc (.cells #[.int .u8 0, .int .u8 0, .int .u8 0, .int .u8 0, .int .u8 0, .int .u8 0, .int .u8 0, .int .u8 0, .int .u8 0, .int .u8 0, .int .u8 0, .int .u8 0, .int .u8 0, .int .i64 0, .int .i64 0, .int .i64 0, .int .i64 0] 27))).heap.size := lt_alloc _ _
      refine wpAnyH_take (i := 8) (v := .tuple #[.agg kd.cells, v2, .int .i64 0]) rfl (by kernel_rfl) (by kernel_rfl) (by kernel_rfl) (fun _ _ _ h => h) (Or.inl ⟨by rfl, by intro w hSw; clear hHeld hSw; go_simp; (try rfl)⟩) (by assumption) ?_
      simp only [Act.put, List.setIfInBounds_toArray, List.set_cons_zero, List.set_cons_succ, List.getElem_toArray, List.getElem_cons_succ, List.getElem_cons_zero]
      refine wpAnyH_take (i := 9) (v := .agg kd.cells) rfl (by kernel_rfl) (by kernel_rfl) (by kernel_rfl) (fun _ _ _ h => h) (Or.inl ⟨by rfl, by intro w hSw; clear hHeld hSw; go_simp; (try rfl)⟩) (by assumption) ?_
      simp only [Act.put, List.setIfInBounds_toArray, List.set_cons_zero, List.set_cons_succ, List.getElem_toArray, List.getElem_cons_succ, List.getElem_cons_zero]
      refine wpAnyH_take (i := 10) (v := v2) rfl (by kernel_rfl) (by kernel_rfl) (by kernel_rfl) (fun _ _ _ h => h) (Or.inl ⟨by rfl, by intro w hSw; clear hHeld hSw; go_simp; (try rfl)⟩) (by assumption) ?_
      simp only [Act.put, List.setIfInBounds_toArray, List.set_cons_zero, List.set_cons_succ, List.getElem_toArray, List.getElem_cons_succ, List.getElem_cons_zero]
      refine wpAnyH_take (i := 11) (v := .int .i64 0) rfl (by kernel_rfl) (by kernel_rfl) (by kernel_rfl) (fun _ _ _ h => h) (Or.inl ⟨by rfl, by intro w hSw; clear hHeld hSw; go_simp; (try rfl)⟩) (by assumption) ?_
      simp only [Act.put, List.setIfInBounds_toArray, List.set_cons_zero, List.set_cons_succ, List.getElem_toArray, List.getElem_cons_succ, List.getElem_cons_zero]
      have HBA := Lib.hid (show Below w9.heap.size w9 (w1.setRow (w9.heap.size) kd.cells) from below_setRow' HB1.out HTA _)
      refine wpAnyH_ready (rs := [13]) (by kernel_rfl) (by simp) ?_
      refine AllReadyH.cons (i := 13) (rs := []) rfl ?_ AllReadyH.nil
      intro Kq hKq
      simp only [List.getElem_toArray, List.getElem_cons_succ, List.getElem_cons_zero]
      rw [if_pos (by rfl)]
      refine wp_store_row 27 (.tmp 24) (.tmp 114) (by rfl) (w9.heap.size) kd.cells (by as_aux_lemma => kernel_rfl) (by as_aux_lemma => kernel_rfl) 27 #[.int .u8 0, .int .u8 0, .int .u8 0, .int .u8 0, .int .u8 0, .int .u8 0, .int .u8 0, .int .u8 0, .int .u8 0, .int .u8 0, .int .u8 0, .int .u8 0, .int .u8 0, .int .i64 0, .int .i64 0, .int .i64 0, .int .i64 0] HRT.out HIkd.out (by as_aux_lemma => kernel_rfl) (one_cells _) ?_
      refine hKq.out _ _ (HBA.out) (fun hHeld2 => ?_)
      clear hKq Kq hHeld
      have hHeld := hHeld2
      clear hHeld2
      simp only [Act.put, List.setIfInBounds_toArray, List.set_cons_zero, List.set_cons_succ]
      refine wpAnyH_take (i := 14) (v := v2) rfl (by kernel_rfl) (by kernel_rfl) (by kernel_rfl) (fun _ _ _ h => h) (Or.inl ⟨by rfl, by intro w hSw; clear hHeld hSw; go_simp; (try rfl)⟩) (by assumption) ?_
      simp only [Act.put, List.setIfInBounds_toArray, List.set_cons_zero, List.set_cons_succ, List.getElem_toArray, List.getElem_cons_succ, List.getElem_cons_zero]
      refine wpAnyH_take (i := 15) (v := .int .i64 0) rfl (by kernel_rfl) (by kernel_rfl) (by kernel_rfl) (fun _ _ _ h => h) (Or.inl ⟨by rfl, by intro w hSw; clear hHeld hSw; go_simp; (try rfl)⟩) (by assumption) ?_
      simp only [Act.put, List.setIfInBounds_toArray, List.set_cons_zero, List.set_cons_succ, List.getElem_toArray, List.getElem_cons_succ, List.getElem_cons_zero]
      clear hHeld
      refine wpAnyH_done (by kernel_rfl) ?_ _
      have HT : w9.heap.size ≤ w9.heap.size ∧ (w1.setRow (w9.heap.size) kd.cells).heap[w9.heap.size]? = some (.cells kd.cells 27) ∧ Below w9.heap.size w9 (w1.setRow (w9.heap.size) kd.cells) ∧ ListOk (fun b => w9.heap.size ≤ b) (w1.setRow (w9.heap.size) kd.cells) v2 [m4] := ⟨HTA, setRow_heap _ _ _ _ _ _ HRT.out, HBA.out, ((hO.setRow (w9.heap.size) HTL kd.cells).listOk (one_ok HG4.out) (Nat.le_trans (show 1 ≤ 2 by decide) (by unfold maxLen; decide))).mono (fun b q => Nat.le_trans HSZ0 q)⟩
      go_wp2_with fail
      go_meet
      case rel => exact ⟨_, _, rfl, rfl, rfl, HT⟩
  case rest =>
    obtain ⟨T, v2, rfl, rfl, rfl, hT, rT, hb, lx⟩ := hcut
    obtain ⟨ao7, n7, c7, rfl⟩ : ∃ ao n c, u25 = .slice ao n c := by obtain ⟨ao, c, e, _⟩ := lx; exact ⟨ao, _, c, e⟩
    obtain ⟨yb, yo, ym, e7, hyb, hym, hyi⟩ := lx.one
    obtain ⟨_, _, e8, _⟩ := lx
    cases e8
    subst e7
    have RT := Lib.hid rT
    have HYI := Lib.hid hyi
    clear rT hyi
    have hTl : T < wc.heap.size := row_lt RT.out
    have RSwc := Lib.hid (show wc.heap[w2.heap.size]? = some (.cells (pairCells pa pb) 28) from row_below hb RSw9.out)
    have lRSwc : w2.heap.size < wc.heap.size := row_lt RSwc.out
    have RCwc := Lib.hid (show wc.heap[w8.heap.size]? = some (.cells kc.cells 27) from row_below hb RCw9.out)
    have lRCwc : w8.heap.size < wc.heap.size := row_lt RCwc.out
    have HBwc := Lib.hid (below_step HBw9.out hb)
    clear hb
    have lRTwc : T < wc.heap.size := hTl
    have nRS_RT : w2.heap.size < T := Nat.lt_of_lt_of_le lRSw9 hT
    have zs : wc.cell? ⟨T, 12, none⟩ = some (.int .u8 5) := by rw [cell_of_row _ _ _ _ _ _ RT.out, lk_st, HST.out]
    go_upto_region 22 with fail
    clear zs
    refine wp_region_held_drew (S := fun w' => w'.heap[w8.heap.size]? = some (.cells kc.cells 27) ∧ w'.cell? ⟨yb, yo, none⟩ = some ym) (by kernel_rfl) (⟨RCwc.out, hym⟩) (fun hHeld => ?_)
    refine wpAnyH_take (i := 0) (v := .int .i64 1) rfl (by kernel_rfl) (by kernel_rfl) (by kernel_rfl) (fun _ _ _ h => h) (Or.inl ⟨by rfl, by intro w hSw; clear hHeld hSw; go_simp; (try rfl)⟩) (by assumption) ?_
    simp only [Act.put, List.setIfInBounds_toArray, List.set_cons_zero, List.set_cons_succ, List.getElem_toArray, List.getElem_cons_succ, List.getElem_cons_zero]
    refine wpAnyH_take (i := 1) (v := .agg kc.cells) rfl (by kernel_rfl) (by kernel_rfl) (by kernel_rfl) (fun _ _ _ h => h) (yields_sub (by rfl) 27 _ rfl (w8.heap.size) 0 (by rfl) kc.cells _ (fun w' h' => range_row h'.1) Try.underlying27 rfl HIkc.out) (by assumption) ?_
    simp only [Act.put, List.setIfInBounds_toArray, List.set_cons_zero, List.set_cons_succ, List.getElem_toArray, List.getElem_cons_succ, List.getElem_cons_zero]
    refine wpAnyH_take (i := 2) (v := .slice (some ⟨yb, yo, none⟩) 1 c7) rfl (by kernel_rfl) (by kernel_rfl) (by kernel_rfl) (fun _ _ _ h => h) (Or.inl ⟨by rfl, by intro w hSw; clear hHeld hSw; go_simp; (try rfl)⟩) (by assumption) ?_
    simp only [Act.put, List.setIfInBounds_toArray, List.set_cons_zero, List.set_cons_succ, List.getElem_toArray, List.getElem_cons_succ, List.getElem_cons_zero]
    refine wpAnyH_take (i := 3) (v := .pointer (some ⟨yb, yo, none⟩)) rfl (by kernel_rfl) (by kernel_rfl) (by kernel_rfl) (fun _ _ _ h => h) (Or.inl ⟨by rfl, by intro w hSw; clear hHeld hSw; go_simp; (try rfl)⟩) (by assumption) ?_
    simp only [Act.put, List.setIfInBounds_toArray, List.set_cons_zero, List.set_cons_succ, List.getElem_toArray, List.getElem_cons_succ, List.getElem_cons_zero]
    refine wpAnyH_take (i := 4) (v := ym) rfl (by kernel_rfl) (by kernel_rfl) (by kernel_rfl) (fun _ _ _ h => h) (Or.inl ⟨by rfl, by intro w hSw; have tq := hSw.2; clear hHeld hSw; go_simp⟩) (by assumption) ?_
    simp only [Act.put, List.setIfInBounds_toArray, List.set_cons_zero, List.set_cons_succ, List.getElem_toArray, List.getElem_cons_succ, List.getElem_cons_zero]
    refine wpAnyH_ready (rs := [5]) (by kernel_rfl) (by simp) ?_
    refine AllReadyH.cons (i := 5) (rs := []) rfl ?_ AllReadyH.nil
    intro Kq hKq
    simp only [List.getElem_toArray, List.getElem_cons_succ, List.getElem_cons_zero]
    rw [if_pos (by rfl)]
    refine wp_call_fn 20 #[.agg kc.cells, ym, .int .i64 10] (_) (by as_aux_lemma => kernel_rfl) (CI.out _ ym HYI.out) ?_
    rintro e w1 ⟨v3, rfl, hO, hb⟩
    refine ⟨.tuple #[.agg ke.cells, v3, .int .i64 0], rfl, ?_⟩
    have HBN := Lib.hid (show Below wc.heap.size wc w1 from (Below.refl _ _).drew.trans hb)
    refine hKq.out _ _ (⟨row_below HBN.out RCwc.out, below_kept HBN.out hym⟩) (fun hHeld2 => ?_)
    clear hKq Kq hHeld
    have hHeld := hHeld2
    clear hHeld2
    simp only [Act.put, List.setIfInBounds_toArray, List.set_cons_zero, List.set_cons_succ]
    refine wpAnyH_take (i := 6) (v := .tuple #[.agg ke.cells, v3, .int .i64 0]) rfl (by kernel_rfl) (by kernel_rfl) (by kernel_rfl) (fun _ _ _ h => h) (Or.inl ⟨by rfl, by intro w hSw; clear hHeld hSw; go_simp; (try rfl)⟩) (by assumption) ?_
    simp only [Act.put, List.setIfInBounds_toArray, List.set_cons_zero, List.set_cons_succ, List.getElem_toArray, List.getElem_cons_succ, List.getElem_cons_zero]
    refine wpAnyH_take (i := 7) (v := .agg ke.cells) rfl (by kernel_rfl) (by kernel_rfl) (by kernel_rfl) (fun _ _ _ h => h) (Or.inl ⟨by rfl, by intro w hSw; clear hHeld hSw; go_simp; (try rfl)⟩) (by assumption) ?_
    simp only [Act.put, List.setIfInBounds_toArray, List.set_cons_zero, List.set_cons_succ, List.getElem_toArray, List.getElem_cons_succ, List.getElem_cons_zero]
    refine wpAnyH_take (i := 8) (v := v3) rfl (by kernel_rfl) (by kernel_rfl) (by kernel_rfl) (fun _ _ _ h => h) (Or.inl ⟨by rfl, by intro w hSw; clear hHeld hSw; go_simp; (try rfl)⟩) (by assumption) ?_
    simp only [Act.put, List.setIfInBounds_toArray, List.set_cons_zero, List.set_cons_succ, List.getElem_toArray, List.getElem_cons_succ, List.getElem_cons_zero]
    refine wpAnyH_take (i := 9) (v := .int .i64 0) rfl (by kernel_rfl) (by kernel_rfl) (by kernel_rfl) (fun _ _ _ h => h) (Or.inl ⟨by rfl, by intro w hSw; clear hHeld hSw; go_simp; (try rfl)⟩) (by assumption) ?_
    simp only [Act.put, List.setIfInBounds_toArray, List.set_cons_zero, List.set_cons_succ, List.getElem_toArray, List.getElem_cons_succ, List.getElem_cons_zero]
    refine wpAnyH_take (i := 10) (v := .pointer (some ⟨w2.heap.size, 17, none⟩)) rfl (by kernel_rfl) (by kernel_rfl) (by kernel_rfl) (fun _ _ _ h => h) (Or.inl ⟨by rfl, by intro w hSw; clear hHeld hSw; go_simp; (try rfl)⟩) (by assumption) ?_
    simp only [Act.put, List.setIfInBounds_toArray, List.set_cons_zero, List.set_cons_succ, List.getElem_toArray, List.getElem_cons_succ, List.getElem_cons_zero]
    have HRN := Lib.hid (row_below HBN.out RSwc.out)
    have HTN := Lib.hid (show w1.there (w2.heap.size) 17 ke.cells.size from there_of_row HRN.out 17 17 (by rw [pair_size]; decide))
    have lyb : w2.heap.size < yb := Nat.lt_of_lt_of_le lRSw9 hyb
    have hKN := kept_setCells (ok := fun b => w2.heap.size < b) (w := w1) (b := w2.heap.size) (o := 17) (vs := ke.cells.toList) (Nat.lt_irrefl _)
    refine wpAnyH_ready (rs := [11]) (by kernel_rfl) (by simp) ?_
    refine AllReadyH.cons (i := 11) (rs := []) rfl ?_ AllReadyH.nil
    intro Kq hKq
    simp only [List.getElem_toArray, List.getElem_cons_succ, List.getElem_cons_zero]
    rw [if_pos (by rfl)]
    refine wp_store_mid 27 (.tmp 139) (.tmp 136) rfl (w2.heap.size) 17 ke.cells (by as_aux_lemma => kernel_rfl) (by as_aux_lemma => kernel_rfl) HTN.out HIke.out (one_cells _) ?_
    refine hKq.out _ _ (⟨(heap_setCells_far _ _ _ _ _ (Nat.ne_of_gt nRS_RC)).trans (row_below HBN.out RCwc.out), kept_cell hKN lyb (below_kept HBN.out hym)⟩) (fun hHeld2 => ?_)
    clear hKq Kq hHeld
    have hHeld := hHeld2
    clear hHeld2
    simp only [Act.put, List.setIfInBounds_toArray, List.set_cons_zero, List.set_cons_succ]
    refine wpAnyH_take (i := 12) (v := .int .i64 0) rfl (by kernel_rfl) (by kernel_rfl) (by kernel_rfl) (fun _ _ _ h => h) (Or.inl ⟨by rfl, by intro w hSw; clear hHeld hSw; go_simp; (try rfl)⟩) (by assumption) ?_
    simp only [Act.put, List.setIfInBounds_toArray, List.set_cons_zero, List.set_cons_succ, List.getElem_toArray, List.getElem_cons_succ, List.getElem_cons_zero]
    clear hHeld
    refine wpAnyH_done (by kernel_rfl) ?_ _
    clear hb hO hym HYI hKN HTN
    have hb := HBN.out
    have RSw1 := Lib.hid (show w1.heap[w2.heap.size]? = some (.cells (pairCells pa pb) 28) from row_below hb RSwc.out)
    have lRSw1 : w2.heap.size < w1.heap.size := row_lt RSw1.out
    have RTw1 := Lib.hid (show w1.heap[T]? = some (.cells kd.cells 27) from row_below hb RT.out)
    have lRTw1 : T < w1.heap.size := row_lt RTw1.out
    have HBw1 := Lib.hid (below_step HBwc.out hb)
    clear hb
    have RSwd := Lib.hid (show (w1.setCells (w2.heap.size) 17 ke.cells.toList).heap[w2.heap.size]? = some (.cells (pairCells pa ke) 28) from (heap_setCells_same _ _ _ _ _ _ RSw1.out).trans (by rw [put_pair1]))
    have lRSwd : w2.heap.size < (w1.setCells (w2.heap.size) 17 ke.cells.toList).heap.size := row_lt RSwd.out
    have RTwd := Lib.hid (show (w1.setCells (w2.heap.size) 17 ke.cells.toList).heap[T]? = some (.cells kd.cells 27) from (heap_setCells_far _ _ _ _ _ (Nat.ne_of_gt nRS_RT)).trans RTw1.out)
    have lRTwd : T < (w1.setCells (w2.heap.size) 17 ke.cells.toList).heap.size := row_lt RTwd.out
    have HBwd := Lib.hid (below_setCells' gRS ke.cells.toList 17 _ _ HBw1.out)
    generalize hgen : w1.setCells (w2.heap.size) 17 ke.cells.toList = wd at *
    clear hgen
    go_wp2_with ((with_reducible refine wpList_load_row rfl 27 (.tmp 24) rfl (T) rfl 27 (kd.cells) (0, 0) _ RTwd.out Try.underlying27 rfl HIkd.out ?_))
    refine (CK.out _).mono ?_
    rintro e wf ⟨v1, rfl, hO, hb⟩
    have RSwf := Lib.hid (show wf.heap[w2.heap.size]? = some (.cells (pairCells pa ke) 28) from row_below hb RSwd.out)
    have lRSwf : w2.heap.size < wf.heap.size := row_lt RSwf.out
    have RTwf := Lib.hid (show wf.heap[T]? = some (.cells kd.cells 27) from row_below hb RTwd.out)
    have lRTwf : T < wf.heap.size := row_lt RTwf.out
    have HBwf := Lib.hid (below_step HBwd.out hb)
    clear hb
    clear hO
    have HTHwf := Lib.hid (show wf.there (w2.heap.size) 0 kf.cells.size from there_of_row RSwf.out 0 17 (by rw [pair_size]; decide))
    go_upto_region 24 with ((with_reducible refine wpList_store_midTo rfl rfl 27 (.tmp 148) (.tmp 145) rfl (w2.heap.size) 0 kf.cells ?_ ?_ HTHwf.out HIkf.out (one_cells _) ?_); (as_aux_lemma => kernel_rfl); (as_aux_lemma => kernel_rfl))
    have RSwg := Lib.hid (show (wf.setCells (w2.heap.size) 0 kf.cells.toList).heap[w2.heap.size]? = some (.cells (pairCells kf ke) 28) from (heap_setCells_same _ _ _ _ _ _ RSwf.out).trans (by rw [put_pair0]))
    have lRSwg : w2.heap.size < (wf.setCells (w2.heap.size) 0 kf.cells.toList).heap.size := row_lt RSwg.out
    have HBwg := Lib.hid (below_setCells' gRS kf.cells.toList 0 _ _ HBwf.out)
    generalize hgen : wf.setCells (w2.heap.size) 0 kf.cells.toList = wg at *
    clear hgen
    have z12 : wg.cell? ⟨w2.heap.size, 12, none⟩ = some (.int .u8 0) := by rw [cell_of_row _ _ _ _ _ _ RSwg.out, pc12, X0.out]
    have z13 : wg.cell? ⟨w2.heap.size, 13, none⟩ = some (.int .i64 (id % 65535 + 1)) := by rw [cell_of_row _ _ _ _ _ _ RSwg.out, pc13, X1.out]
    have z14 : wg.cell? ⟨w2.heap.size, 14, none⟩ = some (.int .i64 0) := by rw [cell_of_row _ _ _ _ _ _ RSwg.out, pc14, X2.out]
    have z29 : wg.cell? ⟨w2.heap.size, 29, none⟩ = some (.int .u8 0) := by rw [cell_of_row _ _ _ _ _ _ RSwg.out, pc29, Y0.out]
    have z30 : wg.cell? ⟨w2.heap.size, 30, none⟩ = some (.int .i64 (other % 65535 + 1)) := by rw [cell_of_row _ _ _ _ _ _ RSwg.out, pc30, Y1.out]
    have z31 : wg.cell? ⟨w2.heap.size, 31, none⟩ = some (.int .i64 0) := by rw [cell_of_row _ _ _ _ _ _ RSwg.out, pc31, Y2.out]
    go_wp2
    go_ret
    exact ⟨rfl, HBwg.out⟩
set_option maxRecDepth 100000 in
set_option maxHeartbeats 8000000 in
theorem settles_10 (id other closer : Int) (hcl : closer % 2 = 0) (hc0 : 0 ≤ closer ∧ closer ≤ 255) (hid : 1 ≤ id ∧ id ≤ 65535) (hot : 1 ≤ other ∧ other ≤ 65535) (A0 B0 A1 B1 pa pb kc kd ke kf : Lk) (m1 m2 m3 m4 : List Int)
    (g1 : MsgOk m1) (g2 : MsgOk m2) (g3 : MsgOk m3) (g4 : MsgOk m4) (yA : A1.By) (yB : B1.By)
    (cE : ∀ w, Calls Try.prog 11 #[.int .i64 id, .int .i64 other] w fun e w' => e = .returned (.tuple #[.agg (pairCells A0 B0), .bool true]) ∧ Below w.heap.size w w')
    (cS : ∀ w, Calls Try.prog 17 #[.agg A0.cells, .int .i64 0] w (Ret3 w A1 [m1] 0))
    (cT : ∀ w, Calls Try.prog 17 #[.agg B0.cells, .int .i64 0] w (Ret3 w B1 [m2] 0))
    (hp : passF 100 A1 B1 [m1] [m2] 0 = (pa, pb, true)) (hpp : pairedB pa pb = true)
    (cC : ∀ w, Calls Try.prog 19 #[.agg pa.cells, .int .i64 10] w (Ret3 w kc [m3] 0))
    (cH : ∀ w mv, MsgIn w mv m3 → Calls Try.prog 20 #[.agg pb.cells, mv, .int .i64 10] w (Ret3 w kd [m4] 0)) (hst : kd.st = 5)
    (cI : ∀ w mv, MsgIn w mv m4 → Calls Try.prog 20 #[.agg kc.cells, mv, .int .i64 10] w (Ret3 w ke [] 0))
    (cK : ∀ w, Calls Try.prog 21 #[.agg kd.cells, .int .i64 40010] w (Ret3 w kf [] 0))
    (x0 : ke.st = 0) (x1 : ke.id = id % 65535 + 1) (x2 : ke.ot = 0) (y0 : kf.st = 0) (y1 : kf.id = other % 65535 + 1) (y2 : kf.ot = 0) (w : World) :
    Calls Try.prog 4 #[.int .i64 id, .int .i64 other, .bool true, .int .u8 closer] w fun e w' => e = .returned (.bool true) ∧ Below w.heap.size w w' := by
  have CE := Lib.hid cE
  have CS := Lib.hid cS
  have CT := Lib.hid cT
  have HP := Lib.hid hp
  have HPP := Lib.hid hpp
  have CC := Lib.hid cC
  have CH := Lib.hid cH
  have CI := Lib.hid cI
  have CK := Lib.hid cK
  have HG1 := Lib.hid g1
  have HG2 := Lib.hid g2
  have HG3 := Lib.hid g3
  have HG4 := Lib.hid g4
  have YA := Lib.hid yA
  have YB := Lib.hid yB
  have HST := Lib.hid hst
  have X0 := Lib.hid x0
  have X1 := Lib.hid x1
  have X2 := Lib.hid x2
  have Y0 := Lib.hid y0
  have Y1 := Lib.hid y1
  have Y2 := Lib.hid y2
  clear cE cS cT hp hpp cC cH cI cK g1 g2 g3 g4 yA yB hst x0 x1 x2 y0 y1 y2
  have HIA0 := Lib.hid (link_info2 A0)
  have HIB0 := Lib.hid (link_info2 B0)
  have HIA1 := Lib.hid (link_info2 A1)
  have HIB1 := Lib.hid (link_info2 B1)
  have HIpa := Lib.hid (link_info2 pa)
  have HIpb := Lib.hid (link_info2 pb)
  have HIkc := Lib.hid (link_info2 kc)
  have HIkd := Lib.hid (link_info2 kd)
  have HIke := Lib.hid (link_info2 ke)
  have HIkf := Lib.hid (link_info2 kf)
  have HIP0 := Lib.hid (pair_info A0 B0)
  have HIPP := Lib.hid (pair_info pa pb)
  go_enter Try.func4, Try.ntmps4
  go_wp2_with (fail)
  refine (alive_any _).mono ?_
  rintro e w1 ⟨rfl, hb⟩
  have HBw1 := Lib.hid (below_step (Below.refl w.heap.size w) hb)
  clear hb
  go_wp2_with (fail)
  refine (CE.out _).mono ?_
  rintro e w2 ⟨rfl, hb⟩
  have HBw2 := Lib.hid (below_step HBw1.out hb)
  clear hb
  have gRS : w.heap.size ≤ w2.heap.size := by have hh := Below.size HBw2.out; exact hh
  have nRS_RO : w2.heap.size < w2.heap.size + 1 := Nat.lt_succ_self _
  have gRO : w.heap.size ≤ w2.heap.size + 1 := by have hh := Below.size (below_more HBw2.out (.cells (pairCells A0 B0) 28)); simp only [World.size_alloc] at hh; exact hh
  go_wp2_with (first
    | (with_reducible refine wpList_runTo rfl (some 10) rfl (.pointer (some ⟨w2.heap.size, 0, none⟩)) (w2.alloc (.cells zp 28)) (by as_aux_lemma => kernel_rfl) ?_; simp only [Act.put, List.setIfInBounds_toArray, List.set_cons_succ, List.set_cons_zero])
    | ((with_reducible refine wpList_store_rowTo rfl 28 (.tmp 10) (.tmp 32) rfl rfl (w2.heap.size) (pairCells A0 B0) ?_ ?_ 28 zp (heap_alloc_at rfl) HIP0.out rfl (pair_one _ _) ?_); (as_aux_lemma => kernel_rfl); (as_aux_lemma => kernel_rfl); rw [setRow_allocAt rfl])
    | ((with_reducible refine wpList_load_sub rfl 27 (.tmp 42) rfl (w2.heap.size) 0 rfl A0.cells _ (range_pair0 (row_alloc (heap_alloc_at rfl))) Try.underlying27 rfl HIA0.out ?_)))
  refine (CS.out _).mono ?_
  rintro e w3 ⟨v1, rfl, hO, hb⟩
  have RSw3 := Lib.hid (show w3.heap[w2.heap.size]? = some (.cells (pairCells A0 B0) 28) from row_below hb (row_alloc (heap_alloc_at rfl)))
  have lRSw3 : w2.heap.size < w3.heap.size := row_lt RSw3.out
  have ROw3 := Lib.hid (show w3.heap[w2.heap.size + 1]? = some (.cells #[(.slice none 0 0), (.slice none 0 0)] 40) from row_below hb (heap_alloc_at (by simp only [World.size_alloc])))
  have lROw3 : w2.heap.size + 1 < w3.heap.size := row_lt ROw3.out
  have HBw3 := Lib.hid (below_step (below_more (below_more HBw2.out (.cells (pairCells A0 B0) 28)) (.cells #[(.slice none 0 0), (.slice none 0 0)] 40)) hb)
  clear hb
  have mLX_RS : w2.heap.size < w2.heap.size + 1 + 1 := Nat.lt_succ_of_lt (Nat.lt_succ_self _)
  have mLX_RO : w2.heap.size + 1 < w2.heap.size + 1 + 1 := Nat.lt_succ_self _
  have hqLX : ListOk (fun b => w2.heap.size + 1 + 1 ≤ b) w3 v1 [m1] := (hO.listOk (one_ok HG1.out) (Nat.le_trans (show _ ≤ 2 by first | (show 1 ≤ 2; decide) | (show 0 ≤ 2; decide) | (show 2 ≤ 2; decide)) (by unfold maxLen; decide))).mono (fun b q => Nat.le_trans (by first | exact Nat.le_refl _ | (simp only [World.size_alloc]; exact Nat.le_refl _)) q)
  obtain ⟨aoLX, cLX, rfl, hq1LX, hq2LX, hq3LX⟩ := hqLX
  have LXw3 := Lib.hid (show ListOk (fun b => w2.heap.size + 1 + 1 ≤ b) w3 (.slice aoLX 1 cLX) [m1] from ⟨aoLX, cLX, rfl, hq1LX, hq2LX, hq3LX⟩)
  clear hO hq1LX hq2LX hq3LX
  have nRS_RA1 : w2.heap.size < w3.heap.size := lRSw3
  have nRO_RA1 : w2.heap.size + 1 < w3.heap.size := lROw3
  have gRA1 : w.heap.size ≤ w3.heap.size := by have hh := Below.size HBw3.out; exact hh
  go_upto_region 7 with ((with_reducible refine wpList_store_rowTo rfl 27 (.tmp 13) (.tmp 45) rfl rfl (w3.heap.size) (A1.cells) ?_ ?_ 27 #[.int .u8 0, .int .u8 0, .int .u8 0, .int .u8 0, .int .u8 0, .int .u8 0, .int .u8 0, .int .u8 0, .int .u8 0, .int .u8 0, .int .u8 0, .int .u8 0, .int .u8 0, .int .i64 0, .int .i64 0, .int .i64 0, .int .i64 0] (heap_alloc_at rfl) HIA1.out rfl (one_cells _) ?_); (as_aux_lemma => kernel_rfl); (as_aux_lemma => kernel_rfl); rw [setRow_allocAt rfl])
  obtain ⟨wpa, hwq⟩ : ∃ wq, wq = (w3.alloc (.cells A1.cells 27)) := ⟨_, rfl⟩
  rw [← hwq]
  have hb : Below ((w3.alloc (.cells A1.cells 27))).heap.size (w3.alloc (.cells A1.cells 27)) wpa := by rw [hwq]; exact Below.refl _ _
  clear hwq
  have RSwpa := Lib.hid (show wpa.heap[w2.heap.size]? = some (.cells (pairCells A0 B0) 28) from row_below hb (row_alloc RSw3.out))
  have lRSwpa : w2.heap.size < wpa.heap.size := row_lt RSwpa.out
  have ROwpa := Lib.hid (show wpa.heap[w2.heap.size + 1]? = some (.cells #[(.slice none 0 0), (.slice none 0 0)] 40) from row_below hb (row_alloc ROw3.out))
  have lROwpa : w2.heap.size + 1 < wpa.heap.size := row_lt ROwpa.out
  have RA1wpa := Lib.hid (show wpa.heap[w3.heap.size]? = some (.cells A1.cells 27) from row_below hb (heap_alloc_at rfl))
  have lRA1wpa : w3.heap.size < wpa.heap.size := row_lt RA1wpa.out
  have LXwpa := Lib.hid (show ListOk (fun b => w2.heap.size + 1 + 1 ≤ b) wpa (.slice aoLX 1 cLX) [m1] from ListOk.keep (ListOk.keep LXw3.out (kept_below ((Below.refl _ _).alloc (Nat.le_refl _) _))) (kept_below hb))
  have HBwpa := Lib.hid (below_step (below_more HBw3.out (.cells A1.cells 27)) hb)
  clear hb
  have HTHwpa := Lib.hid (show wpa.there (w2.heap.size) 0 A1.cells.size from there_of_row RSwpa.out 0 17 (by rw [pair_size]; decide))
  go_upto_region 8 with (first
    | (with_reducible refine wpList_load_row rfl 27 (.tmp 13) rfl (w3.heap.size) rfl 27 (A1.cells) (0, 0) _ RA1wpa.out Try.underlying27 rfl HIA1.out ?_)
    | ((with_reducible refine wpList_store_midTo rfl rfl 27 (.tmp 50) (.tmp 48) rfl (w2.heap.size) 0 A1.cells ?_ ?_ HTHwpa.out HIA1.out (one_cells _) ?_); (as_aux_lemma => kernel_rfl); (as_aux_lemma => kernel_rfl); have RSwpb := Lib.hid (show (wpa.setCells (w2.heap.size) 0 A1.cells.toList).heap[w2.heap.size]? = some (.cells (pairCells A1 B0) 28) from (heap_setCells_same _ _ _ _ _ _ RSwpa.out).trans (by rw [put_pair0])); have lRSwpb : w2.heap.size < (wpa.setCells (w2.heap.size) 0 A1.cells.toList).heap.size := row_lt RSwpb.out; have ROwpb := Lib.hid (show (wpa.setCells (w2.heap.size) 0 A1.cells.toList).heap[w2.heap.size + 1]? = some (.cells #[(.slice none 0 0), (.slice none 0 0)] 40) from (heap_setCells_far _ _ _ _ _ (Nat.ne_of_gt nRS_RO)).trans ROwpa.out); have lROwpb : w2.heap.size + 1 < (wpa.setCells (w2.heap.size) 0 A1.cells.toList).heap.size := row_lt ROwpb.out; have RA1wpb := Lib.hid (show (wpa.setCells (w2.heap.size) 0 A1.cells.toList).heap[w3.heap.size]? = some (.cells A1.cells 27) from (heap_setCells_far _ _ _ _ _ (Nat.ne_of_gt nRS_RA1)).trans RA1wpa.out); have lRA1wpb : w3.heap.size < (wpa.setCells (w2.heap.size) 0 A1.cells.toList).heap.size := row_lt RA1wpb.out; have LXwpb := Lib.hid (show ListOk (fun b => w2.heap.size + 1 + 1 ≤ b) (wpa.setCells (w2.heap.size) 0 A1.cells.toList) (.slice aoLX 1 cLX) [m1] from ListOk.keep LXwpa.out (kept_setCells (Nat.not_le_of_lt mLX_RS))); have HBwpb := Lib.hid (below_setCells' gRS A1.cells.toList 0 _ _ HBwpa.out); generalize hgen : wpa.setCells (w2.heap.size) 0 A1.cells.toList = wpb at *; clear hgen; have z0wp : wpb.cell? ⟨w2.heap.size + 1, 0, none⟩ = some (.slice none 0 0) := (cell_of_row _ _ _ _ _ _ ROwpb.out).trans rfl; have z1wp : wpb.cell? ⟨w2.heap.size + 1, 1, none⟩ = some (.slice none 0 0) := (cell_of_row _ _ _ _ _ _ ROwpb.out).trans rfl; have zfwp : ∀ o, wpb.frozen? ⟨w2.heap.size + 1, o, none⟩ = false := fun o => frozen_of_row _ _ _ _ _ ROwpb.out))
  have RSwpc := Lib.hid (show (wpb.setCell ⟨w2.heap.size + 1, 0, none⟩ (.slice aoLX 1 cLX)).heap[w2.heap.size]? = some (.cells (pairCells A1 B0) 28) from row_set (Nat.ne_of_lt nRS_RO) RSwpb.out)
  have lRSwpc : w2.heap.size < (wpb.setCell ⟨w2.heap.size + 1, 0, none⟩ (.slice aoLX 1 cLX)).heap.size := row_lt RSwpc.out
  have ROwpc := Lib.hid (show (wpb.setCell ⟨w2.heap.size + 1, 0, none⟩ (.slice aoLX 1 cLX)).heap[w2.heap.size + 1]? = some (.cells #[(.slice aoLX 1 cLX), (.slice none 0 0)] 40) from heap_setCell_same _ _ 0 _ _ _ ROwpb.out)
  have lROwpc : w2.heap.size + 1 < (wpb.setCell ⟨w2.heap.size + 1, 0, none⟩ (.slice aoLX 1 cLX)).heap.size := row_lt ROwpc.out
  have RA1wpc := Lib.hid (show (wpb.setCell ⟨w2.heap.size + 1, 0, none⟩ (.slice aoLX 1 cLX)).heap[w3.heap.size]? = some (.cells A1.cells 27) from row_set (Nat.ne_of_gt nRO_RA1) RA1wpb.out)
  have lRA1wpc : w3.heap.size < (wpb.setCell ⟨w2.heap.size + 1, 0, none⟩ (.slice aoLX 1 cLX)).heap.size := row_lt RA1wpc.out
  have LXwpc := Lib.hid (show ListOk (fun b => w2.heap.size + 1 + 1 ≤ b) (wpb.setCell ⟨w2.heap.size + 1, 0, none⟩ (.slice aoLX 1 cLX)) (.slice aoLX 1 cLX) [m1] from ListOk.keep LXwpb.out (kept_setCell (Nat.not_le_of_lt mLX_RO)))
  have HBwpc := Lib.hid (Below.setCell (p := ⟨w2.heap.size + 1, 0, none⟩) HBwpb.out gRO (.slice aoLX 1 cLX))
  generalize hgen : wpb.setCell ⟨w2.heap.size + 1, 0, none⟩ (.slice aoLX 1 cLX) = wpc at *
  clear hgen
  go_upto_region 9 with fail
  go_wp2_with (((with_reducible refine wpList_load_sub rfl 27 (.tmp 54) rfl (w2.heap.size) 17 rfl B0.cells _ (range_pair1 RSwpc.out) Try.underlying27 rfl HIB0.out ?_)))
  refine (CT.out _).mono ?_
  rintro e w4 ⟨v1, rfl, hO, hb⟩
  have RSw4 := Lib.hid (show w4.heap[w2.heap.size]? = some (.cells (pairCells A1 B0) 28) from row_below hb RSwpc.out)
  have lRSw4 : w2.heap.size < w4.heap.size := row_lt RSw4.out
  have ROw4 := Lib.hid (show w4.heap[w2.heap.size + 1]? = some (.cells #[(.slice aoLX 1 cLX), (.slice none 0 0)] 40) from row_below hb ROwpc.out)
  have lROw4 : w2.heap.size + 1 < w4.heap.size := row_lt ROw4.out
  have RA1w4 := Lib.hid (show w4.heap[w3.heap.size]? = some (.cells A1.cells 27) from row_below hb RA1wpc.out)
  have lRA1w4 : w3.heap.size < w4.heap.size := row_lt RA1w4.out
  have LXw4 := Lib.hid (show ListOk (fun b => w2.heap.size + 1 + 1 ≤ b) w4 (.slice aoLX 1 cLX) [m1] from ListOk.keep LXwpc.out (kept_below hb))
  have HBw4 := Lib.hid (below_step HBwpc.out hb)
  clear hb
  have mLY_RS : w2.heap.size < wpc.heap.size := lRSwpc
  have mLY_RO : w2.heap.size + 1 < wpc.heap.size := lROwpc
  have mLY_RA1 : w3.heap.size < wpc.heap.size := lRA1wpc
  have hqLY : ListOk (fun b => wpc.heap.size ≤ b) w4 v1 [m2] := (hO.listOk (one_ok HG2.out) (Nat.le_trans (show _ ≤ 2 by first | (show 1 ≤ 2; decide) | (show 0 ≤ 2; decide) | (show 2 ≤ 2; decide)) (by unfold maxLen; decide))).mono (fun b q => Nat.le_trans (by first | exact Nat.le_refl _ | (simp only [World.size_alloc]; exact Nat.le_refl _)) q)
  obtain ⟨aoLY, cLY, rfl, hq1LY, hq2LY, hq3LY⟩ := hqLY
  have LYw4 := Lib.hid (show ListOk (fun b => wpc.heap.size ≤ b) w4 (.slice aoLY 1 cLY) [m2] from ⟨aoLY, cLY, rfl, hq1LY, hq2LY, hq3LY⟩)
  clear hO hq1LY hq2LY hq3LY
  have nRS_RB1 : w2.heap.size < w4.heap.size := lRSw4
  have nRO_RB1 : w2.heap.size + 1 < w4.heap.size := lROw4
  have nRA1_RB1 : w3.heap.size < w4.heap.size := lRA1w4
  have gRB1 : w.heap.size ≤ w4.heap.size := by have hh := Below.size HBw4.out; exact hh
  go_upto_region 10 with ((with_reducible refine wpList_store_rowTo rfl 27 (.tmp 16) (.tmp 57) rfl rfl (w4.heap.size) (B1.cells) ?_ ?_ 27 #[.int .u8 0, .int .u8 0, .int .u8 0, .int .u8 0, .int .u8 0, .int .u8 0, .int .u8 0, .int .u8 0, .int .u8 0, .int .u8 0, .int .u8 0, .int .u8 0, .int .u8 0, .int .i64 0, .int .i64 0, .int .i64 0, .int .i64 0] (heap_alloc_at rfl) HIB1.out rfl (one_cells _) ?_); (as_aux_lemma => kernel_rfl); (as_aux_lemma => kernel_rfl); rw [setRow_allocAt rfl])
  obtain ⟨wqa, hwq⟩ : ∃ wq, wq = (w4.alloc (.cells B1.cells 27)) := ⟨_, rfl⟩
  rw [← hwq]
  have hb : Below ((w4.alloc (.cells B1.cells 27))).heap.size (w4.alloc (.cells B1.cells 27)) wqa := by rw [hwq]; exact Below.refl _ _
  clear hwq
  have RSwqa := Lib.hid (show wqa.heap[w2.heap.size]? = some (.cells (pairCells A1 B0) 28) from row_below hb (row_alloc RSw4.out))
  have lRSwqa : w2.heap.size < wqa.heap.size := row_lt RSwqa.out
  have ROwqa := Lib.hid (show wqa.heap[w2.heap.size + 1]? = some (.cells #[(.slice aoLX 1 cLX), (.slice none 0 0)] 40) from row_below hb (row_alloc ROw4.out))
  have lROwqa : w2.heap.size + 1 < wqa.heap.size := row_lt ROwqa.out
  have RA1wqa := Lib.hid (show wqa.heap[w3.heap.size]? = some (.cells A1.cells 27) from row_below hb (row_alloc RA1w4.out))
  have lRA1wqa : w3.heap.size < wqa.heap.size := row_lt RA1wqa.out
  have RB1wqa := Lib.hid (show wqa.heap[w4.heap.size]? = some (.cells B1.cells 27) from row_below hb (heap_alloc_at rfl))
  have lRB1wqa : w4.heap.size < wqa.heap.size := row_lt RB1wqa.out
  have LXwqa := Lib.hid (show ListOk (fun b => w2.heap.size + 1 + 1 ≤ b) wqa (.slice aoLX 1 cLX) [m1] from ListOk.keep (ListOk.keep LXw4.out (kept_below ((Below.refl _ _).alloc (Nat.le_refl _) _))) (kept_below hb))
  have LYwqa := Lib.hid (show ListOk (fun b => wpc.heap.size ≤ b) wqa (.slice aoLY 1 cLY) [m2] from ListOk.keep (ListOk.keep LYw4.out (kept_below ((Below.refl _ _).alloc (Nat.le_refl _) _))) (kept_below hb))
  have HBwqa := Lib.hid (below_step (below_more HBw4.out (.cells B1.cells 27)) hb)
  clear hb
  have HTHwqa := Lib.hid (show wqa.there (w2.heap.size) 17 B1.cells.size from there_of_row RSwqa.out 17 17 (by rw [pair_size]; decide))
  go_upto_region 11 with (first
    | (with_reducible refine wpList_load_row rfl 27 (.tmp 16) rfl (w4.heap.size) rfl 27 (B1.cells) (0, 0) _ RB1wqa.out Try.underlying27 rfl HIB1.out ?_)
    | ((with_reducible refine wpList_store_midTo rfl rfl 27 (.tmp 62) (.tmp 60) rfl (w2.heap.size) 17 B1.cells ?_ ?_ HTHwqa.out HIB1.out (one_cells _) ?_); (as_aux_lemma => kernel_rfl); (as_aux_lemma => kernel_rfl); have RSwqb := Lib.hid (show (wqa.setCells (w2.heap.size) 17 B1.cells.toList).heap[w2.heap.size]? = some (.cells (pairCells A1 B1) 28) from (heap_setCells_same _ _ _ _ _ _ RSwqa.out).trans (by rw [put_pair1])); have lRSwqb : w2.heap.size < (wqa.setCells (w2.heap.size) 17 B1.cells.toList).heap.size := row_lt RSwqb.out; have ROwqb := Lib.hid (show (wqa.setCells (w2.heap.size) 17 B1.cells.toList).heap[w2.heap.size + 1]? = some (.cells #[(.slice aoLX 1 cLX), (.slice none 0 0)] 40) from (heap_setCells_far _ _ _ _ _ (Nat.ne_of_gt nRS_RO)).trans ROwqa.out); have lROwqb : w2.heap.size + 1 < (wqa.setCells (w2.heap.size) 17 B1.cells.toList).heap.size := row_lt ROwqb.out; have RA1wqb := Lib.hid (show (wqa.setCells (w2.heap.size) 17 B1.cells.toList).heap[w3.heap.size]? = some (.cells A1.cells 27) from (heap_setCells_far _ _ _ _ _ (Nat.ne_of_gt nRS_RA1)).trans RA1wqa.out); have lRA1wqb : w3.heap.size < (wqa.setCells (w2.heap.size) 17 B1.cells.toList).heap.size := row_lt RA1wqb.out; have RB1wqb := Lib.hid (show (wqa.setCells (w2.heap.size) 17 B1.cells.toList).heap[w4.heap.size]? = some (.cells B1.cells 27) from (heap_setCells_far _ _ _ _ _ (Nat.ne_of_gt nRS_RB1)).trans RB1wqa.out); have lRB1wqb : w4.heap.size < (wqa.setCells (w2.heap.size) 17 B1.cells.toList).heap.size := row_lt RB1wqb.out; have LXwqb := Lib.hid (show ListOk (fun b => w2.heap.size + 1 + 1 ≤ b) (wqa.setCells (w2.heap.size) 17 B1.cells.toList) (.slice aoLX 1 cLX) [m1] from ListOk.keep LXwqa.out (kept_setCells (Nat.not_le_of_lt mLX_RS))); have LYwqb := Lib.hid (show ListOk (fun b => wpc.heap.size ≤ b) (wqa.setCells (w2.heap.size) 17 B1.cells.toList) (.slice aoLY 1 cLY) [m2] from ListOk.keep LYwqa.out (kept_setCells (Nat.not_le_of_lt mLY_RS))); have HBwqb := Lib.hid (below_setCells' gRS B1.cells.toList 17 _ _ HBwqa.out); generalize hgen : wqa.setCells (w2.heap.size) 17 B1.cells.toList = wqb at *; clear hgen; have z0wq : wqb.cell? ⟨w2.heap.size + 1, 0, none⟩ = some (.slice aoLX 1 cLX) := (cell_of_row _ _ _ _ _ _ ROwqb.out).trans rfl; have z1wq : wqb.cell? ⟨w2.heap.size + 1, 1, none⟩ = some (.slice none 0 0) := (cell_of_row _ _ _ _ _ _ ROwqb.out).trans rfl; have zfwq : ∀ o, wqb.frozen? ⟨w2.heap.size + 1, o, none⟩ = false := fun o => frozen_of_row _ _ _ _ _ ROwqb.out))
  have RSwqc := Lib.hid (show (wqb.setCell ⟨w2.heap.size + 1, 1, none⟩ (.slice aoLY 1 cLY)).heap[w2.heap.size]? = some (.cells (pairCells A1 B1) 28) from row_set (Nat.ne_of_lt nRS_RO) RSwqb.out)
  have lRSwqc : w2.heap.size < (wqb.setCell ⟨w2.heap.size + 1, 1, none⟩ (.slice aoLY 1 cLY)).heap.size := row_lt RSwqc.out
  have ROwqc := Lib.hid (show (wqb.setCell ⟨w2.heap.size + 1, 1, none⟩ (.slice aoLY 1 cLY)).heap[w2.heap.size + 1]? = some (.cells #[(.slice aoLX 1 cLX), (.slice aoLY 1 cLY)] 40) from heap_setCell_same _ _ 1 _ _ _ ROwqb.out)
  have lROwqc : w2.heap.size + 1 < (wqb.setCell ⟨w2.heap.size + 1, 1, none⟩ (.slice aoLY 1 cLY)).heap.size := row_lt ROwqc.out
  have RA1wqc := Lib.hid (show (wqb.setCell ⟨w2.heap.size + 1, 1, none⟩ (.slice aoLY 1 cLY)).heap[w3.heap.size]? = some (.cells A1.cells 27) from row_set (Nat.ne_of_gt nRO_RA1) RA1wqb.out)
  have lRA1wqc : w3.heap.size < (wqb.setCell ⟨w2.heap.size + 1, 1, none⟩ (.slice aoLY 1 cLY)).heap.size := row_lt RA1wqc.out
  have RB1wqc := Lib.hid (show (wqb.setCell ⟨w2.heap.size + 1, 1, none⟩ (.slice aoLY 1 cLY)).heap[w4.heap.size]? = some (.cells B1.cells 27) from row_set (Nat.ne_of_gt nRO_RB1) RB1wqb.out)
  have lRB1wqc : w4.heap.size < (wqb.setCell ⟨w2.heap.size + 1, 1, none⟩ (.slice aoLY 1 cLY)).heap.size := row_lt RB1wqc.out
  have LXwqc := Lib.hid (show ListOk (fun b => w2.heap.size + 1 + 1 ≤ b) (wqb.setCell ⟨w2.heap.size + 1, 1, none⟩ (.slice aoLY 1 cLY)) (.slice aoLX 1 cLX) [m1] from ListOk.keep LXwqb.out (kept_setCell (Nat.not_le_of_lt mLX_RO)))
  have LYwqc := Lib.hid (show ListOk (fun b => wpc.heap.size ≤ b) (wqb.setCell ⟨w2.heap.size + 1, 1, none⟩ (.slice aoLY 1 cLY)) (.slice aoLY 1 cLY) [m2] from ListOk.keep LYwqb.out (kept_setCell (Nat.not_le_of_lt mLY_RO)))
  have HBwqc := Lib.hid (Below.setCell (p := ⟨w2.heap.size + 1, 1, none⟩) HBwqb.out gRO (.slice aoLY 1 cLY))
  generalize hgen : wqb.setCell ⟨w2.heap.size + 1, 1, none⟩ (.slice aoLY 1 cLY) = wqc at *
  clear hgen
  have HIO := Lib.hid (out_info (.slice aoLX 1 cLX) (.slice aoLY 1 cLY))
  have HIPQ := Lib.hid (pair_info A1 B1)
  go_wp2_with (first
    | (with_reducible refine wpList_load_row rfl 28 (.tmp 10) rfl (w2.heap.size) rfl 28 (pairCells A1 B1) (0, 0) _ RSwqc.out Try.underlying28 rfl HIPQ.out ?_)
    | (with_reducible refine wpList_load_row rfl 40 (.tmp 12) rfl (w2.heap.size + 1) rfl 40 #[(.slice aoLX 1 cLX), (.slice aoLY 1 cLY)] (0, 0) _ ROwqc.out Try.underlying40 rfl HIO.out ?_))
  refine (passed_of HP.out (.slice aoLX 1 cLX) (.slice aoLY 1 cLY) YA.out YB.out (one_ok HG1.out) (one_ok HG2.out) (show 1 + 1 ≤ 800 by decide) _ LXwqc.out.listIn LYwqc.out.listIn).mono ?_
  rintro e w5 ⟨rfl, hb⟩
  have RSw5 := Lib.hid (show w5.heap[w2.heap.size]? = some (.cells (pairCells A1 B1) 28) from row_below hb RSwqc.out)
  have lRSw5 : w2.heap.size < w5.heap.size := row_lt RSw5.out
  have ROw5 := Lib.hid (show w5.heap[w2.heap.size + 1]? = some (.cells #[(.slice aoLX 1 cLX), (.slice aoLY 1 cLY)] 40) from row_below hb ROwqc.out)
  have lROw5 : w2.heap.size + 1 < w5.heap.size := row_lt ROw5.out
  have RA1w5 := Lib.hid (show w5.heap[w3.heap.size]? = some (.cells A1.cells 27) from row_below hb RA1wqc.out)
  have lRA1w5 : w3.heap.size < w5.heap.size := row_lt RA1w5.out
  have RB1w5 := Lib.hid (show w5.heap[w4.heap.size]? = some (.cells B1.cells 27) from row_below hb RB1wqc.out)
  have lRB1w5 : w4.heap.size < w5.heap.size := row_lt RB1w5.out
  have LXw5 := Lib.hid (show ListOk (fun b => w2.heap.size + 1 + 1 ≤ b) w5 (.slice aoLX 1 cLX) [m1] from ListOk.keep LXwqc.out (kept_below hb))
  have LYw5 := Lib.hid (show ListOk (fun b => wpc.heap.size ≤ b) w5 (.slice aoLY 1 cLY) [m2] from ListOk.keep LYwqc.out (kept_below hb))
  have HBw5 := Lib.hid (below_step HBwqc.out hb)
  clear hb
  go_upto_region 13 with ((with_reducible refine wpList_store_rowTo rfl 28 (.tmp 10) (.tmp 70) rfl rfl (w2.heap.size) (pairCells pa pb) ?_ ?_ 28 ((pairCells A1 B1)) RSw5.out HIPP.out rfl (pair_one _ _) ?_); (as_aux_lemma => kernel_rfl); (as_aux_lemma => kernel_rfl))
  have RSw6 := Lib.hid (show (w5.setRow (w2.heap.size) (pairCells pa pb)).heap[w2.heap.size]? = some (.cells (pairCells pa pb) 28) from setRow_heap _ _ _ _ _ _ RSw5.out)
  have lRSw6 : w2.heap.size < (w5.setRow (w2.heap.size) (pairCells pa pb)).heap.size := row_lt RSw6.out
  have HBw6 := Lib.hid (below_setRow' HBw5.out gRS (pairCells pa pb))
  generalize hgen : w5.setRow (w2.heap.size) (pairCells pa pb) = w6 at *
  clear hgen
  go_wp2_with (((with_reducible refine wpList_load_subG ?_ 28 (.tmp 10) rfl (w2.heap.size) 0 rfl (pairCells pa pb) _ (range_row RSw6.out) Try.underlying28 rfl HIPP.out ?_); (as_aux_lemma => kernel_rfl)))
  refine (paired_any pa pb _).mono ?_
  rintro e w7 ⟨rfl, hb⟩
  have RSw7 := Lib.hid (show w7.heap[w2.heap.size]? = some (.cells (pairCells pa pb) 28) from row_below hb RSw6.out)
  have lRSw7 : w2.heap.size < w7.heap.size := row_lt RSw7.out
  have HBw7 := Lib.hid (below_step HBw6.out hb)
  clear hb
  simp only [HPP.out]
  go_wp2_with (((with_reducible refine wpList_load_sub rfl 27 (.tmp 92) rfl (w2.heap.size) 0 rfl pa.cells _ (range_pair0 RSw7.out) Try.underlying27 rfl HIpa.out ?_)))
  refine (CC.out _).mono ?_
  rintro e w8 ⟨v1, rfl, hO, hb⟩
  have RSw8 := Lib.hid (show w8.heap[w2.heap.size]? = some (.cells (pairCells pa pb) 28) from row_below hb RSw7.out)
  have lRSw8 : w2.heap.size < w8.heap.size := row_lt RSw8.out
  have HBw8 := Lib.hid (below_step HBw7.out hb)
  clear hb
  have mLZ_RS : w2.heap.size < w7.heap.size := lRSw7
  have hqLZ : ListOk (fun b => w7.heap.size ≤ b) w8 v1 [m3] := (hO.listOk (one_ok HG3.out) (Nat.le_trans (show _ ≤ 2 by first | (show 1 ≤ 2; decide) | (show 0 ≤ 2; decide) | (show 2 ≤ 2; decide)) (by unfold maxLen; decide))).mono (fun b q => Nat.le_trans (by first | exact Nat.le_refl _ | (simp only [World.size_alloc]; exact Nat.le_refl _)) q)
  obtain ⟨aoLZ, cLZ, rfl, hq1LZ, hq2LZ, hq3LZ⟩ := hqLZ
  have LZw8 := Lib.hid (show ListOk (fun b => w7.heap.size ≤ b) w8 (.slice aoLZ 1 cLZ) [m3] from ⟨aoLZ, cLZ, rfl, hq1LZ, hq2LZ, hq3LZ⟩)
  clear hO hq1LZ hq2LZ hq3LZ
  have nRS_RC : w2.heap.size < w8.heap.size := lRSw8
  have gRC : w.heap.size ≤ w8.heap.size := by have hh := Below.size HBw8.out; exact hh
  go_upto_region 19 with ((with_reducible refine wpList_store_rowTo rfl 27 (.tmp 21) (.tmp 95) rfl rfl (w8.heap.size) (kc.cells) ?_ ?_ 27 #[.int .u8 0, .int .u8 0, .int .u8 0, .int .u8 0, .int .u8 0, .int .u8 0, .int .u8 0, .int .u8 0, .int .u8 0, .int .u8 0, .int .u8 0, .int .u8 0, .int .u8 0, .int .i64 0, .int .i64 0, .int .i64 0, .int .i64 0] (heap_alloc_at rfl) HIkc.out rfl (one_cells _) ?_); (as_aux_lemma => kernel_rfl); (as_aux_lemma => kernel_rfl); rw [setRow_allocAt rfl])
  obtain ⟨w9, hwq⟩ : ∃ wq, wq = (w8.alloc (.cells kc.cells 27)) := ⟨_, rfl⟩
  rw [← hwq]
  have hb : Below ((w8.alloc (.cells kc.cells 27))).heap.size (w8.alloc (.cells kc.cells 27)) w9 := by rw [hwq]; exact Below.refl _ _
  clear hwq
  have RSw9 := Lib.hid (show w9.heap[w2.heap.size]? = some (.cells (pairCells pa pb) 28) from row_below hb (row_alloc RSw8.out))
  have lRSw9 : w2.heap.size < w9.heap.size := row_lt RSw9.out
  have RCw9 := Lib.hid (show w9.heap[w8.heap.size]? = some (.cells kc.cells 27) from row_below hb (heap_alloc_at rfl))
  have lRCw9 : w8.heap.size < w9.heap.size := row_lt RCw9.out
  have LZw9 := Lib.hid (show ListOk (fun b => w7.heap.size ≤ b) w9 (.slice aoLZ 1 cLZ) [m3] from ListOk.keep (ListOk.keep LZw8.out (kept_below ((Below.refl _ _).alloc (Nat.le_refl _) _))) (kept_below hb))
  have HBw9 := Lib.hid (below_step (below_more HBw8.out (.cells kc.cells 27)) hb)
  clear hb
  obtain ⟨zb, zo, zm, rfl, hzb, hzm, hzi⟩ := ListOk.one LZw9.out
  have HZI := Lib.hid hzi
  clear hzi
  go_cut [24, 25, 26] (fun t10 t11 t12 wx => ∃ T v2, t10 = .pointer (some ⟨T, 0, none⟩) ∧ t11 = v2 ∧ t12 = .int .i64 0 ∧ w9.heap.size ≤ T ∧ wx.heap[T]? = some (.cells kd.cells 27) ∧ Below w9.heap.size w9 wx ∧ ListOk (fun b => w9.heap.size ≤ b) wx v2 [m4])
  case first =>
    refine wp_region_held_drew (S := fun w' => Below w9.heap.size w9 w') (by kernel_rfl) ((Below.refl _ _).drew) (fun hHeld => ?_)
    refine wpAnyH_take (i := 0) (v := .int .i64 0) rfl (by kernel_rfl) (by kernel_rfl) (by kernel_rfl) (fun _ _ _ h => h) (Or.inl ⟨by rfl, by intro w hSw; clear hHeld hSw; go_simp; (try rfl)⟩) (by assumption) ?_
    simp only [Act.put, List.setIfInBounds_toArray, List.set_cons_zero, List.set_cons_succ, List.getElem_toArray, List.getElem_cons_succ, List.getElem_cons_zero]
    refine wpAnyH_take (i := 1) (v := .int .i64 1) rfl (by kernel_rfl) (by kernel_rfl) (by kernel_rfl) (fun _ _ _ h => h) (Or.inl ⟨by rfl, by intro w hSw; clear hHeld hSw; go_simp; (try rfl)⟩) (by assumption) ?_
    simp only [Act.put, List.setIfInBounds_toArray, List.set_cons_zero, List.set_cons_succ, List.getElem_toArray, List.getElem_cons_succ, List.getElem_cons_zero]
    refine wpAnyH_take (i := 2) (v := .pointer (some ⟨w2.heap.size, 17, none⟩)) rfl (by kernel_rfl) (by kernel_rfl) (by kernel_rfl) (fun _ _ _ h => h) (Or.inl ⟨by rfl, by intro w hSw; clear hHeld hSw; go_simp; (try rfl)⟩) (by assumption) ?_
    simp only [Act.put, List.setIfInBounds_toArray, List.set_cons_zero, List.set_cons_succ, List.getElem_toArray, List.getElem_cons_succ, List.getElem_cons_zero]
    refine wpAnyH_take (i := 3) (v := .agg pb.cells) rfl (by kernel_rfl) (by kernel_rfl) (by kernel_rfl) (fun _ _ _ h => h) (yields_sub (by rfl) 27 _ rfl (w2.heap.size) 17 (by rfl) pb.cells _ (fun w' h' => range_pair1 (row_below h' RSw9.out)) Try.underlying27 rfl HIpb.out) (by assumption) ?_
    simp only [Act.put, List.setIfInBounds_toArray, List.set_cons_zero, List.set_cons_succ, List.getElem_toArray, List.getElem_cons_succ, List.getElem_cons_zero]
    refine wpAnyH_take (i := 4) (v := .slice (some ⟨zb, zo, none⟩) 1 cLZ) rfl (by kernel_rfl) (by kernel_rfl) (by kernel_rfl) (fun _ _ _ h => h) (Or.inl ⟨by rfl, by intro w hSw; clear hHeld hSw; go_simp; (try rfl)⟩) (by assumption) ?_
    simp only [Act.put, List.setIfInBounds_toArray, List.set_cons_zero, List.set_cons_succ, List.getElem_toArray, List.getElem_cons_succ, List.getElem_cons_zero]
    refine wpAnyH_take (i := 5) (v := .pointer (some ⟨zb, zo, none⟩)) rfl (by kernel_rfl) (by kernel_rfl) (by kernel_rfl) (fun _ _ _ h => h) (Or.inl ⟨by rfl, by intro w hSw; clear hHeld hSw; go_simp; (try rfl)⟩) (by assumption) ?_
    simp only [Act.put, List.setIfInBounds_toArray, List.set_cons_zero, List.set_cons_succ, List.getElem_toArray, List.getElem_cons_succ, List.getElem_cons_zero]
    refine wpAnyH_take (i := 6) (v := zm) rfl (by kernel_rfl) (by kernel_rfl) (by kernel_rfl) (fun _ _ _ h => h) (Or.inl ⟨by rfl, by intro w hSw; have tq := below_kept hSw hzm; clear hHeld hSw; go_simp⟩) (by assumption) ?_
    simp only [Act.put, List.setIfInBounds_toArray, List.set_cons_zero, List.set_cons_succ, List.getElem_toArray, List.getElem_cons_succ, List.getElem_cons_zero]
    refine wpAnyH_ready (rs := [7, 12]) (by kernel_rfl) (by simp) ?_
    refine AllReadyH.cons (i := 7) (rs := [12]) rfl ?_ (AllReadyH.cons (i := 12) (rs := []) rfl ?_ AllReadyH.nil)
    · intro Kq hKq
      simp only [List.getElem_toArray, List.getElem_cons_succ, List.getElem_cons_zero]
      rw [if_pos (by rfl)]
      have HSZ0 : w9.heap.size ≤ (w9.drew).heap.size := hHeld.size
      refine wp_call_fn 20 #[.agg pb.cells, zm, .int .i64 10] (_) (by as_aux_lemma => kernel_rfl) (CH.out _ zm HZI.out) ?_
      rintro e w1 ⟨v2, rfl, hO, hb⟩
      refine ⟨.tuple #[.agg kd.cells, v2, .int .i64 0], rfl, ?_⟩
      have HB1 := Lib.hid (hHeld.trans (hb.mono HSZ0))
      have HBZ : w9.heap.size ≤ w1.heap.size := HB1.out.size
      refine hKq.out _ _ (HB1.out) (fun hHeld2 => ?_)
      clear hKq Kq hHeld
      have hHeld := hHeld2
      clear hHeld2
      simp only [Act.put, List.setIfInBounds_toArray, List.set_cons_zero, List.set_cons_succ]
      refine wpAnyH_take (i := 8) (v := .tuple #[.agg kd.cells, v2, .int .i64 0]) rfl (by kernel_rfl) (by kernel_rfl) (by kernel_rfl) (fun _ _ _ h => h) (Or.inl ⟨by rfl, by intro w hSw; clear hHeld hSw; go_simp; (try rfl)⟩) (by assumption) ?_
      simp only [Act.put, List.setIfInBounds_toArray, List.set_cons_zero, List.set_cons_succ, List.getElem_toArray, List.getElem_cons_succ, List.getElem_cons_zero]
      refine wpAnyH_take (i := 9) (v := .agg kd.cells) rfl (by kernel_rfl) (by kernel_rfl) (by kernel_rfl) (fun _ _ _ h => h) (Or.inl ⟨by rfl, by intro w hSw; clear hHeld hSw; go_simp; (try rfl)⟩) (by assumption) ?_
      simp only [Act.put, List.setIfInBounds_toArray, List.set_cons_zero, List.set_cons_succ, List.getElem_toArray, List.getElem_cons_succ, List.getElem_cons_zero]
      refine wpAnyH_take (i := 10) (v := v2) rfl (by kernel_rfl) (by kernel_rfl) (by kernel_rfl) (fun _ _ _ h => h) (Or.inl ⟨by rfl, by intro w hSw; clear hHeld hSw; go_simp; (try rfl)⟩) (by assumption) ?_
      simp only [Act.put, List.setIfInBounds_toArray, List.set_cons_zero, List.set_cons_succ, List.getElem_toArray, List.getElem_cons_succ, List.getElem_cons_zero]
      refine wpAnyH_take (i := 11) (v := .int .i64 0) rfl (by kernel_rfl) (by kernel_rfl) (by kernel_rfl) (fun _ _ _ h => h) (Or.inl ⟨by rfl, by intro w hSw; clear hHeld hSw; go_simp; (try rfl)⟩) (by assumption) ?_
      simp only [Act.put, List.setIfInBounds_toArray, List.set_cons_zero, List.set_cons_succ, List.getElem_toArray, List.getElem_cons_succ, List.getElem_cons_zero]
      refine wpAnyH_ready (rs := [12]) (by kernel_rfl) (by simp) ?_
      refine AllReadyH.cons (i := 12) (rs := []) rfl ?_ AllReadyH.nil
      intro Kq hKq
      simp only [List.getElem_toArray, List.getElem_cons_succ, List.getElem_cons_zero]
      rw [if_pos (by rfl)]
      have HTA : w9.heap.size ≤ w1.heap.size := hHeld.size
      refine wp_op_value (.pointer (some ⟨w1.heap.size, 0, none⟩)) (w1.alloc (.cells #[.int .u8 0, .int .u8 0, .int .u8 0, .int .u8 0, .int .u8 0, .int .u8 0, .int .u8 0, .int .u8 0, .int .u8 0, .int .u8 0, .int .u8 0, .int .u8 0, .int .u8 0, .int .i64 0, .int .i64 0, .int .i64 0, .int .i64 0] 27)) (by as_aux_lemma => kernel_rfl) ?_
      refine hKq.out _ _ ((hHeld.alloc hHeld.size _)) (fun hHeld2 => ?_)
      clear hKq Kq hHeld
      have hHeld := hHeld2
      clear hHeld2
      simp only [Act.put, List.setIfInBounds_toArray, List.set_cons_zero, List.set_cons_succ]
      have HBA := Lib.hid (show Below w9.heap.size w9 (w1.alloc (.cells kd.cells 27)) from HB1.out.alloc HBZ _)
      refine wpAnyH_ready (rs := [13]) (by kernel_rfl) (by simp) ?_
      refine AllReadyH.cons (i := 13) (rs := []) rfl ?_ AllReadyH.nil
      intro Kq hKq
      simp only [List.getElem_toArray, List.getElem_cons_succ, List.getElem_cons_zero]
      rw [if_pos (by rfl)]
      refine wp_store_row 27 (.tmp 24) (.tmp 114) (by rfl) (w1.heap.size) kd.cells (by as_aux_lemma => kernel_rfl) (by as_aux_lemma => kernel_rfl) 27 #[.int .u8 0, .int .u8 0, .int .u8 0, .int .u8 0, .int .u8 0, .int .u8 0, .int .u8 0, .int .u8 0, .int .u8 0, .int .u8 0, .int .u8 0, .int .u8 0, .int .u8 0, .int .i64 0, .int .i64 0, .int .i64 0, .int .i64 0] (heap_alloc_new _ _) HIkd.out (by as_aux_lemma => kernel_rfl) (one_cells _) ?_
      rw [setRow_alloc]
      refine hKq.out _ _ (HBA.out) (fun hHeld2 => ?_)
      clear hKq Kq hHeld
      have hHeld := hHeld2
      clear hHeld2
      simp only [Act.put, List.setIfInBounds_toArray, List.set_cons_zero, List.set_cons_succ]
      refine wpAnyH_take (i := 14) (v := v2) rfl (by kernel_rfl) (by kernel_rfl) (by kernel_rfl) (fun _ _ _ h => h) (Or.inl ⟨by rfl, by intro w hSw; clear hHeld hSw; go_simp; (try rfl)⟩) (by assumption) ?_
      simp only [Act.put, List.setIfInBounds_toArray, List.set_cons_zero, List.set_cons_succ, List.getElem_toArray, List.getElem_cons_succ, List.getElem_cons_zero]
      refine wpAnyH_take (i := 15) (v := .int .i64 0) rfl (by kernel_rfl) (by kernel_rfl) (by kernel_rfl) (fun _ _ _ h => h) (Or.inl ⟨by rfl, by intro w hSw; clear hHeld hSw; go_simp; (try rfl)⟩) (by assumption) ?_
      simp only [Act.put, List.setIfInBounds_toArray, List.set_cons_zero, List.set_cons_succ, List.getElem_toArray, List.getElem_cons_succ, List.getElem_cons_zero]
      clear hHeld
      refine wpAnyH_done (by kernel_rfl) ?_ _
      have HT : w9.heap.size ≤ w1.heap.size ∧ (w1.alloc (.cells kd.cells 27)).heap[w1.heap.size]? = some (.cells kd.cells 27) ∧ Below w9.heap.size w9 (w1.alloc (.cells kd.cells 27)) ∧ ListOk (fun b => w9.heap.size ≤ b) (w1.alloc (.cells kd.cells 27)) v2 [m4] := ⟨HBZ, heap_alloc_new _ _, HBA.out, ((hO.listOk (one_ok HG4.out) (Nat.le_trans (show 1 ≤ 2 by decide) (by unfold maxLen; decide))).mono (fun b q => Nat.le_trans HSZ0 q)).keep (kept_below ((Below.refl _ _).alloc (Nat.le_refl _) _))⟩
      go_wp2_with fail
      go_meet
      case rel => exact ⟨_, _, rfl, rfl, rfl, HT⟩
    · intro Kq hKq
      simp only [List.getElem_toArray, List.getElem_cons_succ, List.getElem_cons_zero]
      rw [if_pos (by rfl)]
      have HTA : w9.heap.size ≤ w9.heap.size := hHeld.size
      refine wp_op_value (.pointer (some ⟨w9.heap.size, 0, none⟩)) (w9.drew.alloc (.cells #[.int .u8 0, .int .u8 0, .int .u8 0, .int .u8 0, .int .u8 0, .int .u8 0, .int .u8 0, .int .u8 0, .int .u8 0, .int .u8 0, .int .u8 0, .int .u8 0, .int .u8 0, .int .i64 0, .int .i64 0, .int .i64 0, .int .i64 0] 27)) (by as_aux_lemma => kernel_rfl) ?_
      refine hKq.out _ _ ((hHeld.alloc hHeld.size _)) (fun hHeld2 => ?_)
      clear hKq Kq hHeld
      have hHeld := hHeld2
      clear hHeld2
      simp only [Act.put, List.setIfInBounds_toArray, List.set_cons_zero, List.set_cons_succ]
      refine wpAnyH_ready (rs := [7]) (by kernel_rfl) (by simp) ?_
      refine AllReadyH.cons (i := 7) (rs := []) rfl ?_ AllReadyH.nil
      intro Kq hKq
      simp only [List.getElem_toArray, List.getElem_cons_succ, List.getElem_cons_zero]
      rw [if_pos (by rfl)]
      have HSZ0 : w9.heap.size ≤ ((w9.drew.alloc (.cells #[.int .u8 0, .int .u8 0, .int .u8 0, .int .u8 0, .int .u8 0, .int .u8 0, .int .u8 0, .int .u8 0, .int .u8 0, .int .u8 0, .int .u8 0, .int .u8 0, .int .u8 0, .int .i64 0, .int .i64 0, .int .i64 0, .int .i64 0] 27))).heap.size := hHeld.size
      refine wp_call_fn 20 #[.agg pb.cells, zm, .int .i64 10] (_) (by as_aux_lemma => kernel_rfl) (CH.out _ zm (HZI.out.below ((Below.refl _ _).drew.alloc (Nat.le_refl _) _))) ?_
      rintro e w1 ⟨v2, rfl, hO, hb⟩
      refine ⟨.tuple #[.agg kd.cells, v2, .int .i64 0], rfl, ?_⟩
      have HB1 := Lib.hid (hHeld.trans (hb.mono HSZ0))
      have HBZ : w9.heap.size ≤ w1.heap.size := HB1.out.size
      refine hKq.out _ _ (HB1.out) (fun hHeld2 => ?_)
      clear hKq Kq hHeld
      have hHeld := hHeld2
      clear hHeld2
      simp only [Act.put, List.setIfInBounds_toArray, List.set_cons_zero, List.set_cons_succ]
      have HRT := Lib.hid (row_below hb (heap_alloc_new _ _))
      have HTL : w9.heap.size < ((w9.drew.alloc (.cells #[.int .u8 0, .int .u8 0, .int .u8 0, .int .u8 0, .int .u8 0, .int .u8 0, .int .u8 0, .int .u8 0, .int .u8 0, .int .u8 0, .int .u8 0, .int .u8 0, .int .u8 0, .int .i64 0, .int .i64 0, .int .i64 0, .int .i64 0] 27))).heap.size := lt_alloc _ _
      refine wpAnyH_take (i := 8) (v := .tuple #[.agg kd.cells, v2, .int .i64 0]) rfl (by kernel_rfl) (by kernel_rfl) (by kernel_rfl) (fun _ _ _ h => h) (Or.inl ⟨by rfl, by intro w hSw; clear hHeld hSw; go_simp; (try rfl)⟩) (by assumption) ?_
      simp only [Act.put, List.setIfInBounds_toArray, List.set_cons_zero, List.set_cons_succ, List.getElem_toArray, List.getElem_cons_succ, List.getElem_cons_zero]
      refine wpAnyH_take (i := 9) (v := .agg kd.cells) rfl (by kernel_rfl) (by kernel_rfl) (by kernel_rfl) (fun _ _ _ h => h) (Or.inl ⟨by rfl, by intro w hSw; clear hHeld hSw; go_simp; (try rfl)⟩) (by assumption) ?_
      simp only [Act.put, List.setIfInBounds_toArray, List.set_cons_zero, List.set_cons_succ, List.getElem_toArray, List.getElem_cons_succ, List.getElem_cons_zero]
      refine wpAnyH_take (i := 10) (v := v2) rfl (by kernel_rfl) (by kernel_rfl) (by kernel_rfl) (fun _ _ _ h => h) (Or.inl ⟨by rfl, by intro w hSw; clear hHeld hSw; go_simp; (try rfl)⟩) (by assumption) ?_
      simp only [Act.put, List.setIfInBounds_toArray, List.set_cons_zero, List.set_cons_succ, List.getElem_toArray, List.getElem_cons_succ, List.getElem_cons_zero]
      refine wpAnyH_take (i := 11) (v := .int .i64 0) rfl (by kernel_rfl) (by kernel_rfl) (by kernel_rfl) (fun _ _ _ h => h) (Or.inl ⟨by rfl, by intro w hSw; clear hHeld hSw; go_simp; (try rfl)⟩) (by assumption) ?_
      simp only [Act.put, List.setIfInBounds_toArray, List.set_cons_zero, List.set_cons_succ, List.getElem_toArray, List.getElem_cons_succ, List.getElem_cons_zero]
      have HBA := Lib.hid (show Below w9.heap.size w9 (w1.setRow (w9.heap.size) kd.cells) from below_setRow' HB1.out HTA _)
      refine wpAnyH_ready (rs := [13]) (by kernel_rfl) (by simp) ?_
      refine AllReadyH.cons (i := 13) (rs := []) rfl ?_ AllReadyH.nil
      intro Kq hKq
      simp only [List.getElem_toArray, List.getElem_cons_succ, List.getElem_cons_zero]
      rw [if_pos (by rfl)]
      refine wp_store_row 27 (.tmp 24) (.tmp 114) (by rfl) (w9.heap.size) kd.cells (by as_aux_lemma => kernel_rfl) (by as_aux_lemma => kernel_rfl) 27 #[.int .u8 0, .int .u8 0, .int .u8 0, .int .u8 0, .int .u8 0, .int .u8 0, .int .u8 0, .int .u8 0, .int .u8 0, .int .u8 0, .int .u8 0, .int .u8 0, .int .u8 0, .int .i64 0, .int .i64 0, .int .i64 0, .int .i64 0] HRT.out HIkd.out (by as_aux_lemma => kernel_rfl) (one_cells _) ?_
      refine hKq.out _ _ (HBA.out) (fun hHeld2 => ?_)
      clear hKq Kq hHeld
      have hHeld := hHeld2
      clear hHeld2
      simp only [Act.put, List.setIfInBounds_toArray, List.set_cons_zero, List.set_cons_succ]
      refine wpAnyH_take (i := 14) (v := v2) rfl (by kernel_rfl) (by kernel_rfl) (by kernel_rfl) (fun _ _ _ h => h) (Or.inl ⟨by rfl, by intro w hSw; clear hHeld hSw; go_simp; (try rfl)⟩) (by assumption) ?_
      simp only [Act.put, List.setIfInBounds_toArray, List.set_cons_zero, List.set_cons_succ, List.getElem_toArray, List.getElem_cons_succ, List.getElem_cons_zero]
      refine wpAnyH_take (i := 15) (v := .int .i64 0) rfl (by kernel_rfl) (by kernel_rfl) (by kernel_rfl) (fun _ _ _ h => h) (Or.inl ⟨by rfl, by intro w hSw; clear hHeld hSw; go_simp; (try rfl)⟩) (by assumption) ?_
      simp only [Act.put, List.setIfInBounds_toArray, List.set_cons_zero, List.set_cons_succ, List.getElem_toArray, List.getElem_cons_succ, List.getElem_cons_zero]
      clear hHeld
      refine wpAnyH_done (by kernel_rfl) ?_ _
      have HT : w9.heap.size ≤ w9.heap.size ∧ (w1.setRow (w9.heap.size) kd.cells).heap[w9.heap.size]? = some (.cells kd.cells 27) ∧ Below w9.heap.size w9 (w1.setRow (w9.heap.size) kd.cells) ∧ ListOk (fun b => w9.heap.size ≤ b) (w1.setRow (w9.heap.size) kd.cells) v2 [m4] := ⟨HTA, setRow_heap _ _ _ _ _ _ HRT.out, HBA.out, ((hO.setRow (w9.heap.size) HTL kd.cells).listOk (one_ok HG4.out) (Nat.le_trans (show 1 ≤ 2 by decide) (by unfold maxLen; decide))).mono (fun b q => Nat.le_trans HSZ0 q)⟩
      go_wp2_with fail
      go_meet
      case rel => exact ⟨_, _, rfl, rfl, rfl, HT⟩
  case rest =>
    obtain ⟨T, v2, rfl, rfl, rfl, hT, rT, hb, lx⟩ := hcut
    obtain ⟨ao7, n7, c7, rfl⟩ : ∃ ao n c, u25 = .slice ao n c := by obtain ⟨ao, c, e, _⟩ := lx; exact ⟨ao, _, c, e⟩
    obtain ⟨yb, yo, ym, e7, hyb, hym, hyi⟩ := lx.one
    obtain ⟨_, _, e8, _⟩ := lx
    cases e8
    subst e7
    have RT := Lib.hid rT
    have HYI := Lib.hid hyi
    clear rT hyi
    have hTl : T < wc.heap.size := row_lt RT.out
    have RSwc := Lib.hid (show wc.heap[w2.heap.size]? = some (.cells (pairCells pa pb) 28) from row_below hb RSw9.out)
    have lRSwc : w2.heap.size < wc.heap.size := row_lt RSwc.out
    have RCwc := Lib.hid (show wc.heap[w8.heap.size]? = some (.cells kc.cells 27) from row_below hb RCw9.out)
    have lRCwc : w8.heap.size < wc.heap.size := row_lt RCwc.out
    have HBwc := Lib.hid (below_step HBw9.out hb)
    clear hb
    have lRTwc : T < wc.heap.size := hTl
    have nRS_RT : w2.heap.size < T := Nat.lt_of_lt_of_le lRSw9 hT
    have zs : wc.cell? ⟨T, 12, none⟩ = some (.int .u8 5) := by rw [cell_of_row _ _ _ _ _ _ RT.out, lk_st, HST.out]
    go_upto_region 22 with fail
    clear zs
    refine wp_region_held_drew (S := fun w' => w'.heap[w8.heap.size]? = some (.cells kc.cells 27) ∧ w'.cell? ⟨yb, yo, none⟩ = some ym) (by kernel_rfl) (⟨RCwc.out, hym⟩) (fun hHeld => ?_)
    refine wpAnyH_take (i := 0) (v := .int .i64 0) rfl (by kernel_rfl) (by kernel_rfl) (by kernel_rfl) (fun _ _ _ h => h) (Or.inl ⟨by rfl, by intro w hSw; clear hHeld hSw; go_simp; (try rfl)⟩) (by assumption) ?_
    simp only [Act.put, List.setIfInBounds_toArray, List.set_cons_zero, List.set_cons_succ, List.getElem_toArray, List.getElem_cons_succ, List.getElem_cons_zero]
    refine wpAnyH_take (i := 1) (v := .agg kc.cells) rfl (by kernel_rfl) (by kernel_rfl) (by kernel_rfl) (fun _ _ _ h => h) (yields_sub (by rfl) 27 _ rfl (w8.heap.size) 0 (by rfl) kc.cells _ (fun w' h' => range_row h'.1) Try.underlying27 rfl HIkc.out) (by assumption) ?_
    simp only [Act.put, List.setIfInBounds_toArray, List.set_cons_zero, List.set_cons_succ, List.getElem_toArray, List.getElem_cons_succ, List.getElem_cons_zero]
    refine wpAnyH_take (i := 2) (v := .slice (some ⟨yb, yo, none⟩) 1 c7) rfl (by kernel_rfl) (by kernel_rfl) (by kernel_rfl) (fun _ _ _ h => h) (Or.inl ⟨by rfl, by intro w hSw; clear hHeld hSw; go_simp; (try rfl)⟩) (by assumption) ?_
    simp only [Act.put, List.setIfInBounds_toArray, List.set_cons_zero, List.set_cons_succ, List.getElem_toArray, List.getElem_cons_succ, List.getElem_cons_zero]
    refine wpAnyH_take (i := 3) (v := .pointer (some ⟨yb, yo, none⟩)) rfl (by kernel_rfl) (by kernel_rfl) (by kernel_rfl) (fun _ _ _ h => h) (Or.inl ⟨by rfl, by intro w hSw; clear hHeld hSw; go_simp; (try rfl)⟩) (by assumption) ?_
    simp only [Act.put, List.setIfInBounds_toArray, List.set_cons_zero, List.set_cons_succ, List.getElem_toArray, List.getElem_cons_succ, List.getElem_cons_zero]
    refine wpAnyH_take (i := 4) (v := ym) rfl (by kernel_rfl) (by kernel_rfl) (by kernel_rfl) (fun _ _ _ h => h) (Or.inl ⟨by rfl, by intro w hSw; have tq := hSw.2; clear hHeld hSw; go_simp⟩) (by assumption) ?_
    simp only [Act.put, List.setIfInBounds_toArray, List.set_cons_zero, List.set_cons_succ, List.getElem_toArray, List.getElem_cons_succ, List.getElem_cons_zero]
    refine wpAnyH_ready (rs := [5]) (by kernel_rfl) (by simp) ?_
    refine AllReadyH.cons (i := 5) (rs := []) rfl ?_ AllReadyH.nil
    intro Kq hKq
    simp only [List.getElem_toArray, List.getElem_cons_succ, List.getElem_cons_zero]
    rw [if_pos (by rfl)]
    refine wp_call_fn 20 #[.agg kc.cells, ym, .int .i64 10] (_) (by as_aux_lemma => kernel_rfl) (CI.out _ ym HYI.out) ?_
    rintro e w1 ⟨v3, rfl, hO, hb⟩
    refine ⟨.tuple #[.agg ke.cells, v3, .int .i64 0], rfl, ?_⟩
    have HBN := Lib.hid (show Below wc.heap.size wc w1 from (Below.refl _ _).drew.trans hb)
    refine hKq.out _ _ (⟨row_below HBN.out RCwc.out, below_kept HBN.out hym⟩) (fun hHeld2 => ?_)
    clear hKq Kq hHeld
    have hHeld := hHeld2
    clear hHeld2
    simp only [Act.put, List.setIfInBounds_toArray, List.set_cons_zero, List.set_cons_succ]
    refine wpAnyH_take (i := 6) (v := .tuple #[.agg ke.cells, v3, .int .i64 0]) rfl (by kernel_rfl) (by kernel_rfl) (by kernel_rfl) (fun _ _ _ h => h) (Or.inl ⟨by rfl, by intro w hSw; clear hHeld hSw; go_simp; (try rfl)⟩) (by assumption) ?_
    simp only [Act.put, List.setIfInBounds_toArray, List.set_cons_zero, List.set_cons_succ, List.getElem_toArray, List.getElem_cons_succ, List.getElem_cons_zero]
    refine wpAnyH_take (i := 7) (v := .agg ke.cells) rfl (by kernel_rfl) (by kernel_rfl) (by kernel_rfl) (fun _ _ _ h => h) (Or.inl ⟨by rfl, by intro w hSw; clear hHeld hSw; go_simp; (try rfl)⟩) (by assumption) ?_
    simp only [Act.put, List.setIfInBounds_toArray, List.set_cons_zero, List.set_cons_succ, List.getElem_toArray, List.getElem_cons_succ, List.getElem_cons_zero]
    refine wpAnyH_take (i := 8) (v := v3) rfl (by kernel_rfl) (by kernel_rfl) (by kernel_rfl) (fun _ _ _ h => h) (Or.inl ⟨by rfl, by intro w hSw; clear hHeld hSw; go_simp; (try rfl)⟩) (by assumption) ?_
    simp only [Act.put, List.setIfInBounds_toArray, List.set_cons_zero, List.set_cons_succ, List.getElem_toArray, List.getElem_cons_succ, List.getElem_cons_zero]
    refine wpAnyH_take (i := 9) (v := .int .i64 0) rfl (by kernel_rfl) (by kernel_rfl) (by kernel_rfl) (fun _ _ _ h => h) (Or.inl ⟨by rfl, by intro w hSw; clear hHeld hSw; go_simp; (try rfl)⟩) (by assumption) ?_
    simp only [Act.put, List.setIfInBounds_toArray, List.set_cons_zero, List.set_cons_succ, List.getElem_toArray, List.getElem_cons_succ, List.getElem_cons_zero]
    refine wpAnyH_take (i := 10) (v := .pointer (some ⟨w2.heap.size, 0, none⟩)) rfl (by kernel_rfl) (by kernel_rfl) (by kernel_rfl) (fun _ _ _ h => h) (Or.inl ⟨by rfl, by intro w hSw; clear hHeld hSw; go_simp; (try rfl)⟩) (by assumption) ?_
    simp only [Act.put, List.setIfInBounds_toArray, List.set_cons_zero, List.set_cons_succ, List.getElem_toArray, List.getElem_cons_succ, List.getElem_cons_zero]
    have HRN := Lib.hid (row_below HBN.out RSwc.out)
    have HTN := Lib.hid (show w1.there (w2.heap.size) 0 ke.cells.size from there_of_row HRN.out 0 17 (by rw [pair_size]; decide))
    have lyb : w2.heap.size < yb := Nat.lt_of_lt_of_le lRSw9 hyb
    have hKN := kept_setCells (ok := fun b => w2.heap.size < b) (w := w1) (b := w2.heap.size) (o := 0) (vs := ke.cells.toList) (Nat.lt_irrefl _)
    refine wpAnyH_ready (rs := [11]) (by kernel_rfl) (by simp) ?_
    refine AllReadyH.cons (i := 11) (rs := []) rfl ?_ AllReadyH.nil
    intro Kq hKq
    simp only [List.getElem_toArray, List.getElem_cons_succ, List.getElem_cons_zero]
    rw [if_pos (by rfl)]
    refine wp_store_mid 27 (.tmp 139) (.tmp 136) rfl (w2.heap.size) 0 ke.cells (by as_aux_lemma => kernel_rfl) (by as_aux_lemma => kernel_rfl) HTN.out HIke.out (one_cells _) ?_
    refine hKq.out _ _ (⟨(heap_setCells_far _ _ _ _ _ (Nat.ne_of_gt nRS_RC)).trans (row_below HBN.out RCwc.out), kept_cell hKN lyb (below_kept HBN.out hym)⟩) (fun hHeld2 => ?_)
    clear hKq Kq hHeld
    have hHeld := hHeld2
    clear hHeld2
    simp only [Act.put, List.setIfInBounds_toArray, List.set_cons_zero, List.set_cons_succ]
    refine wpAnyH_take (i := 12) (v := .int .i64 0) rfl (by kernel_rfl) (by kernel_rfl) (by kernel_rfl) (fun _ _ _ h => h) (Or.inl ⟨by rfl, by intro w hSw; clear hHeld hSw; go_simp; (try rfl)⟩) (by assumption) ?_
    simp only [Act.put, List.setIfInBounds_toArray, List.set_cons_zero, List.set_cons_succ, List.getElem_toArray, List.getElem_cons_succ, List.getElem_cons_zero]
    clear hHeld
    refine wpAnyH_done (by kernel_rfl) ?_ _
    clear hb hO hym HYI hKN HTN
    have hb := HBN.out
    have RSw1 := Lib.hid (show w1.heap[w2.heap.size]? = some (.cells (pairCells pa pb) 28) from row_below hb RSwc.out)
    have lRSw1 : w2.heap.size < w1.heap.size := row_lt RSw1.out
    have RTw1 := Lib.hid (show w1.heap[T]? = some (.cells kd.cells 27) from row_below hb RT.out)
    have lRTw1 : T < w1.heap.size := row_lt RTw1.out
    have HBw1 := Lib.hid (below_step HBwc.out hb)
    clear hb
    have RSwd := Lib.hid (show (w1.setCells (w2.heap.size) 0 ke.cells.toList).heap[w2.heap.size]? = some (.cells (pairCells ke pb) 28) from (heap_setCells_same _ _ _ _ _ _ RSw1.out).trans (by rw [put_pair0]))
    have lRSwd : w2.heap.size < (w1.setCells (w2.heap.size) 0 ke.cells.toList).heap.size := row_lt RSwd.out
    have RTwd := Lib.hid (show (w1.setCells (w2.heap.size) 0 ke.cells.toList).heap[T]? = some (.cells kd.cells 27) from (heap_setCells_far _ _ _ _ _ (Nat.ne_of_gt nRS_RT)).trans RTw1.out)
    have lRTwd : T < (w1.setCells (w2.heap.size) 0 ke.cells.toList).heap.size := row_lt RTwd.out
    have HBwd := Lib.hid (below_setCells' gRS ke.cells.toList 0 _ _ HBw1.out)
    generalize hgen : w1.setCells (w2.heap.size) 0 ke.cells.toList = wd at *
    clear hgen
    go_wp2_with ((with_reducible refine wpList_load_row rfl 27 (.tmp 24) rfl (T) rfl 27 (kd.cells) (0, 0) _ RTwd.out Try.underlying27 rfl HIkd.out ?_))
    refine (CK.out _).mono ?_
    rintro e wf ⟨v1, rfl, hO, hb⟩
    have RSwf := Lib.hid (show wf.heap[w2.heap.size]? = some (.cells (pairCells ke pb) 28) from row_below hb RSwd.out)
    have lRSwf : w2.heap.size < wf.heap.size := row_lt RSwf.out
    have RTwf := Lib.hid (show wf.heap[T]? = some (.cells kd.cells 27) from row_below hb RTwd.out)
    have lRTwf : T < wf.heap.size := row_lt RTwf.out
    have HBwf := Lib.hid (below_step HBwd.out hb)
    clear hb
    clear hO
    have HTHwf := Lib.hid (show wf.there (w2.heap.size) 17 kf.cells.size from there_of_row RSwf.out 17 17 (by rw [pair_size]; decide))
    go_upto_region 24 with ((with_reducible refine wpList_store_midTo rfl rfl 27 (.tmp 148) (.tmp 145) rfl (w2.heap.size) 17 kf.cells ?_ ?_ HTHwf.out HIkf.out (one_cells _) ?_); (as_aux_lemma => kernel_rfl); (as_aux_lemma => kernel_rfl))
    have RSwg := Lib.hid (show (wf.setCells (w2.heap.size) 17 kf.cells.toList).heap[w2.heap.size]? = some (.cells (pairCells ke kf) 28) from (heap_setCells_same _ _ _ _ _ _ RSwf.out).trans (by rw [put_pair1]))
    have lRSwg : w2.heap.size < (wf.setCells (w2.heap.size) 17 kf.cells.toList).heap.size := row_lt RSwg.out
    have HBwg := Lib.hid (below_setCells' gRS kf.cells.toList 17 _ _ HBwf.out)
    generalize hgen : wf.setCells (w2.heap.size) 17 kf.cells.toList = wg at *
    clear hgen
    have z12 : wg.cell? ⟨w2.heap.size, 12, none⟩ = some (.int .u8 0) := by rw [cell_of_row _ _ _ _ _ _ RSwg.out, pc12, X0.out]
    have z13 : wg.cell? ⟨w2.heap.size, 13, none⟩ = some (.int .i64 (id % 65535 + 1)) := by rw [cell_of_row _ _ _ _ _ _ RSwg.out, pc13, X1.out]
    have z14 : wg.cell? ⟨w2.heap.size, 14, none⟩ = some (.int .i64 0) := by rw [cell_of_row _ _ _ _ _ _ RSwg.out, pc14, X2.out]
    have z29 : wg.cell? ⟨w2.heap.size, 29, none⟩ = some (.int .u8 0) := by rw [cell_of_row _ _ _ _ _ _ RSwg.out, pc29, Y0.out]
    have z30 : wg.cell? ⟨w2.heap.size, 30, none⟩ = some (.int .i64 (other % 65535 + 1)) := by rw [cell_of_row _ _ _ _ _ _ RSwg.out, pc30, Y1.out]
    have z31 : wg.cell? ⟨w2.heap.size, 31, none⟩ = some (.int .i64 0) := by rw [cell_of_row _ _ _ _ _ _ RSwg.out, pc31, Y2.out]
    go_wp2
    go_ret
    exact ⟨rfl, HBwg.out⟩
set_option maxRecDepth 100000 in
set_option maxHeartbeats 8000000 in
theorem settles_11 (id other closer : Int) (hcl : closer % 2 = 1) (hc0 : 0 ≤ closer ∧ closer ≤ 255) (hid : 1 ≤ id ∧ id ≤ 65535) (hot : 1 ≤ other ∧ other ≤ 65535) (A0 B0 A1 B1 pa pb kc kd ke kf : Lk) (m1 m2 m3 m4 : List Int)
    (g1 : MsgOk m1) (g2 : MsgOk m2) (g3 : MsgOk m3) (g4 : MsgOk m4) (yA : A1.By) (yB : B1.By)
    (cE : ∀ w, Calls Try.prog 11 #[.int .i64 id, .int .i64 other] w fun e w' => e = .returned (.tuple #[.agg (pairCells A0 B0), .bool true]) ∧ Below w.heap.size w w')
    (cS : ∀ w, Calls Try.prog 17 #[.agg A0.cells, .int .i64 0] w (Ret3 w A1 [m1] 0))
    (cT : ∀ w, Calls Try.prog 17 #[.agg B0.cells, .int .i64 0] w (Ret3 w B1 [m2] 0))
    (hp : passF 100 A1 B1 [m1] [m2] 0 = (pa, pb, true)) (hpp : pairedB pa pb = true)
    (cC : ∀ w, Calls Try.prog 19 #[.agg pb.cells, .int .i64 10] w (Ret3 w kc [m3] 0))
    (cH : ∀ w mv, MsgIn w mv m3 → Calls Try.prog 20 #[.agg pa.cells, mv, .int .i64 10] w (Ret3 w kd [m4] 0)) (hst : kd.st = 5)
    (cI : ∀ w mv, MsgIn w mv m4 → Calls Try.prog 20 #[.agg kc.cells, mv, .int .i64 10] w (Ret3 w ke [] 0))
    (cK : ∀ w, Calls Try.prog 21 #[.agg kd.cells, .int .i64 40010] w (Ret3 w kf [] 0))
    (x0 : kf.st = 0) (x1 : kf.id = id % 65535 + 1) (x2 : kf.ot = 0) (y0 : ke.st = 0) (y1 : ke.id = other % 65535 + 1) (y2 : ke.ot = 0) (w : World) :
    Calls Try.prog 4 #[.int .i64 id, .int .i64 other, .bool true, .int .u8 closer] w fun e w' => e = .returned (.bool true) ∧ Below w.heap.size w w' := by
  have CE := Lib.hid cE
  have CS := Lib.hid cS
  have CT := Lib.hid cT
  have HP := Lib.hid hp
  have HPP := Lib.hid hpp
  have CC := Lib.hid cC
  have CH := Lib.hid cH
  have CI := Lib.hid cI
  have CK := Lib.hid cK
  have HG1 := Lib.hid g1
  have HG2 := Lib.hid g2
  have HG3 := Lib.hid g3
  have HG4 := Lib.hid g4
  have YA := Lib.hid yA
  have YB := Lib.hid yB
  have HST := Lib.hid hst
  have X0 := Lib.hid x0
  have X1 := Lib.hid x1
  have X2 := Lib.hid x2
  have Y0 := Lib.hid y0
  have Y1 := Lib.hid y1
  have Y2 := Lib.hid y2
  clear cE cS cT hp hpp cC cH cI cK g1 g2 g3 g4 yA yB hst x0 x1 x2 y0 y1 y2
  have HIA0 := Lib.hid (link_info2 A0)
  have HIB0 := Lib.hid (link_info2 B0)
  have HIA1 := Lib.hid (link_info2 A1)
  have HIB1 := Lib.hid (link_info2 B1)
  have HIpa := Lib.hid (link_info2 pa)
  have HIpb := Lib.hid (link_info2 pb)
  have HIkc := Lib.hid (link_info2 kc)
  have HIkd := Lib.hid (link_info2 kd)
  have HIke := Lib.hid (link_info2 ke)
  have HIkf := Lib.hid (link_info2 kf)
  have HIP0 := Lib.hid (pair_info A0 B0)
  have HIPP := Lib.hid (pair_info pa pb)
  go_enter Try.func4, Try.ntmps4
  go_wp2_with (fail)
  refine (alive_any _).mono ?_
  rintro e w1 ⟨rfl, hb⟩
  have HBw1 := Lib.hid (below_step (Below.refl w.heap.size w) hb)
  clear hb
  go_wp2_with (fail)
  refine (CE.out _).mono ?_
  rintro e w2 ⟨rfl, hb⟩
  have HBw2 := Lib.hid (below_step HBw1.out hb)
  clear hb
  have gRS : w.heap.size ≤ w2.heap.size := by have hh := Below.size HBw2.out; exact hh
  have nRS_RO : w2.heap.size < w2.heap.size + 1 := Nat.lt_succ_self _
  have gRO : w.heap.size ≤ w2.heap.size + 1 := by have hh := Below.size (below_more HBw2.out (.cells (pairCells A0 B0) 28)); simp only [World.size_alloc] at hh; exact hh
  go_wp2_with (first
    | (with_reducible refine wpList_runTo rfl (some 10) rfl (.pointer (some ⟨w2.heap.size, 0, none⟩)) (w2.alloc (.cells zp 28)) (by as_aux_lemma => kernel_rfl) ?_; simp only [Act.put, List.setIfInBounds_toArray, List.set_cons_succ, List.set_cons_zero])
    | ((with_reducible refine wpList_store_rowTo rfl 28 (.tmp 10) (.tmp 32) rfl rfl (w2.heap.size) (pairCells A0 B0) ?_ ?_ 28 zp (heap_alloc_at rfl) HIP0.out rfl (pair_one _ _) ?_); (as_aux_lemma => kernel_rfl); (as_aux_lemma => kernel_rfl); rw [setRow_allocAt rfl])
    | ((with_reducible refine wpList_load_sub rfl 27 (.tmp 42) rfl (w2.heap.size) 0 rfl A0.cells _ (range_pair0 (row_alloc (heap_alloc_at rfl))) Try.underlying27 rfl HIA0.out ?_)))
  refine (CS.out _).mono ?_
  rintro e w3 ⟨v1, rfl, hO, hb⟩
  have RSw3 := Lib.hid (show w3.heap[w2.heap.size]? = some (.cells (pairCells A0 B0) 28) from row_below hb (row_alloc (heap_alloc_at rfl)))
  have lRSw3 : w2.heap.size < w3.heap.size := row_lt RSw3.out
  have ROw3 := Lib.hid (show w3.heap[w2.heap.size + 1]? = some (.cells #[(.slice none 0 0), (.slice none 0 0)] 40) from row_below hb (heap_alloc_at (by simp only [World.size_alloc])))
  have lROw3 : w2.heap.size + 1 < w3.heap.size := row_lt ROw3.out
  have HBw3 := Lib.hid (below_step (below_more (below_more HBw2.out (.cells (pairCells A0 B0) 28)) (.cells #[(.slice none 0 0), (.slice none 0 0)] 40)) hb)
  clear hb
  have mLX_RS : w2.heap.size < w2.heap.size + 1 + 1 := Nat.lt_succ_of_lt (Nat.lt_succ_self _)
  have mLX_RO : w2.heap.size + 1 < w2.heap.size + 1 + 1 := Nat.lt_succ_self _
  have hqLX : ListOk (fun b => w2.heap.size + 1 + 1 ≤ b) w3 v1 [m1] := (hO.listOk (one_ok HG1.out) (Nat.le_trans (show _ ≤ 2 by first | (show 1 ≤ 2; decide) | (show 0 ≤ 2; decide) | (show 2 ≤ 2; decide)) (by unfold maxLen; decide))).mono (fun b q => Nat.le_trans (by first | exact Nat.le_refl _ | (simp only [World.size_alloc]; exact Nat.le_refl _)) q)
  obtain ⟨aoLX, cLX, rfl, hq1LX, hq2LX, hq3LX⟩ := hqLX
  have LXw3 := Lib.hid (show ListOk (fun b => w2.heap.size + 1 + 1 ≤ b) w3 (.slice aoLX 1 cLX) [m1] from ⟨aoLX, cLX, rfl, hq1LX, hq2LX, hq3LX⟩)
  clear hO hq1LX hq2LX hq3LX
  have nRS_RA1 : w2.heap.size < w3.heap.size := lRSw3
  have nRO_RA1 : w2.heap.size + 1 < w3.heap.size := lROw3
  have gRA1 : w.heap.size ≤ w3.heap.size := by have hh := Below.size HBw3.out; exact hh
  go_upto_region 7 with ((with_reducible refine wpList_store_rowTo rfl 27 (.tmp 13) (.tmp 45) rfl rfl (w3.heap.size) (A1.cells) ?_ ?_ 27 #[.int .u8 0, .int .u8 0, .int .u8 0, .int .u8 0, .int .u8 0, .int .u8 0, .int .u8 0, .int .u8 0, .int .u8 0, .int .u8 0, .int .u8 0, .int .u8 0, .int .u8 0, .int .i64 0, .int .i64 0, .int .i64 0, .int .i64 0] (heap_alloc_at rfl) HIA1.out rfl (one_cells _) ?_); (as_aux_lemma => kernel_rfl); (as_aux_lemma => kernel_rfl); rw [setRow_allocAt rfl])
  obtain ⟨wpa, hwq⟩ : ∃ wq, wq = (w3.alloc (.cells A1.cells 27)) := ⟨_, rfl⟩
  rw [← hwq]
  have hb : Below ((w3.alloc (.cells A1.cells 27))).heap.size (w3.alloc (.cells A1.cells 27)) wpa := by rw [hwq]; exact Below.refl _ _
  clear hwq
  have RSwpa := Lib.hid (show wpa.heap[w2.heap.size]? = some (.cells (pairCells A0 B0) 28) from row_below hb (row_alloc RSw3.out))
  have lRSwpa : w2.heap.size < wpa.heap.size := row_lt RSwpa.out
  have ROwpa := Lib.hid (show wpa.heap[w2.heap.size + 1]? = some (.cells #[(.slice none 0 0), (.slice none 0 0)] 40) from row_below hb (row_alloc ROw3.out))
  have lROwpa : w2.heap.size + 1 < wpa.heap.size := row_lt ROwpa.out
  have RA1wpa := Lib.hid (show wpa.heap[w3.heap.size]? = some (.cells A1.cells 27) from row_below hb (heap_alloc_at rfl))
  have lRA1wpa : w3.heap.size < wpa.heap.size := row_lt RA1wpa.out
  have LXwpa := Lib.hid (show ListOk (fun b => w2.heap.size + 1 + 1 ≤ b) wpa (.slice aoLX 1 cLX) [m1] from ListOk.keep (ListOk.keep LXw3.out (kept_below ((Below.refl _ _).alloc (Nat.le_refl _) _))) (kept_below hb))
  have HBwpa := Lib.hid (below_step (below_more HBw3.out (.cells A1.cells 27)) hb)
  clear hb
  have HTHwpa := Lib.hid (show wpa.there (w2.heap.size) 0 A1.cells.size from there_of_row RSwpa.out 0 17 (by rw [pair_size]; decide))
  go_upto_region 8 with (first
    | (with_reducible refine wpList_load_row rfl 27 (.tmp 13) rfl (w3.heap.size) rfl 27 (A1.cells) (0, 0) _ RA1wpa.out Try.underlying27 rfl HIA1.out ?_)
    | ((with_reducible refine wpList_store_midTo rfl rfl 27 (.tmp 50) (.tmp 48) rfl (w2.heap.size) 0 A1.cells ?_ ?_ HTHwpa.out HIA1.out (one_cells _) ?_); (as_aux_lemma => kernel_rfl); (as_aux_lemma => kernel_rfl); have RSwpb := Lib.hid (show (wpa.setCells (w2.heap.size) 0 A1.cells.toList).heap[w2.heap.size]? = some (.cells (pairCells A1 B0) 28) from (heap_setCells_same _ _ _ _ _ _ RSwpa.out).trans (by rw [put_pair0])); have lRSwpb : w2.heap.size < (wpa.setCells (w2.heap.size) 0 A1.cells.toList).heap.size := row_lt RSwpb.out; have ROwpb := Lib.hid (show (wpa.setCells (w2.heap.size) 0 A1.cells.toList).heap[w2.heap.size + 1]? = some (.cells #[(.slice none 0 0), (.slice none 0 0)] 40) from (heap_setCells_far _ _ _ _ _ (Nat.ne_of_gt nRS_RO)).trans ROwpa.out); have lROwpb : w2.heap.size + 1 < (wpa.setCells (w2.heap.size) 0 A1.cells.toList).heap.size := row_lt ROwpb.out; have RA1wpb := Lib.hid (show (wpa.setCells (w2.heap.size) 0 A1.cells.toList).heap[w3.heap.size]? = some (.cells A1.cells 27) from (heap_setCells_far _ _ _ _ _ (Nat.ne_of_gt nRS_RA1)).trans RA1wpa.out); have lRA1wpb : w3.heap.size < (wpa.setCells (w2.heap.size) 0 A1.cells.toList).heap.size := row_lt RA1wpb.out; have LXwpb := Lib.hid (show ListOk (fun b => w2.heap.size + 1 + 1 ≤ b) (wpa.setCells (w2.heap.size) 0 A1.cells.toList) (.slice aoLX 1 cLX) [m1] from ListOk.keep LXwpa.out (kept_setCells (Nat.not_le_of_lt mLX_RS))); have HBwpb := Lib.hid (below_setCells' gRS A1.cells.toList 0 _ _ HBwpa.out); generalize hgen : wpa.setCells (w2.heap.size) 0 A1.cells.toList = wpb at *; clear hgen; have z0wp : wpb.cell? ⟨w2.heap.size + 1, 0, none⟩ = some (.slice none 0 0) := (cell_of_row _ _ _ _ _ _ ROwpb.out).trans rfl; have z1wp : wpb.cell? ⟨w2.heap.size + 1, 1, none⟩ = some (.slice none 0 0) := (cell_of_row _ _ _ _ _ _ ROwpb.out).trans rfl; have zfwp : ∀ o, wpb.frozen? ⟨w2.heap.size + 1, o, none⟩ = false := fun o => frozen_of_row _ _ _ _ _ ROwpb.out))
  have RSwpc := Lib.hid (show (wpb.setCell ⟨w2.heap.size + 1, 0, none⟩ (.slice aoLX 1 cLX)).heap[w2.heap.size]? = some (.cells (pairCells A1 B0) 28) from row_set (Nat.ne_of_lt nRS_RO) RSwpb.out)
  have lRSwpc : w2.heap.size < (wpb.setCell ⟨w2.heap.size + 1, 0, none⟩ (.slice aoLX 1 cLX)).heap.size := row_lt RSwpc.out
  have ROwpc := Lib.hid (show (wpb.setCell ⟨w2.heap.size + 1, 0, none⟩ (.slice aoLX 1 cLX)).heap[w2.heap.size + 1]? = some (.cells #[(.slice aoLX 1 cLX), (.slice none 0 0)] 40) from heap_setCell_same _ _ 0 _ _ _ ROwpb.out)
  have lROwpc : w2.heap.size + 1 < (wpb.setCell ⟨w2.heap.size + 1, 0, none⟩ (.slice aoLX 1 cLX)).heap.size := row_lt ROwpc.out
  have RA1wpc := Lib.hid (show (wpb.setCell ⟨w2.heap.size + 1, 0, none⟩ (.slice aoLX 1 cLX)).heap[w3.heap.size]? = some (.cells A1.cells 27) from row_set (Nat.ne_of_gt nRO_RA1) RA1wpb.out)
  have lRA1wpc : w3.heap.size < (wpb.setCell ⟨w2.heap.size + 1, 0, none⟩ (.slice aoLX 1 cLX)).heap.size := row_lt RA1wpc.out
  have LXwpc := Lib.hid (show ListOk (fun b => w2.heap.size + 1 + 1 ≤ b) (wpb.setCell ⟨w2.heap.size + 1, 0, none⟩ (.slice aoLX 1 cLX)) (.slice aoLX 1 cLX) [m1] from ListOk.keep LXwpb.out (kept_setCell (Nat.not_le_of_lt mLX_RO)))
  have HBwpc := Lib.hid (Below.setCell (p := ⟨w2.heap.size + 1, 0, none⟩) HBwpb.out gRO (.slice aoLX 1 cLX))
  generalize hgen : wpb.setCell ⟨w2.heap.size + 1, 0, none⟩ (.slice aoLX 1 cLX) = wpc at *
  clear hgen
  go_upto_region 9 with fail
  go_wp2_with (((with_reducible refine wpList_load_sub rfl 27 (.tmp 54) rfl (w2.heap.size) 17 rfl B0.cells _ (range_pair1 RSwpc.out) Try.underlying27 rfl HIB0.out ?_)))
  refine (CT.out _).mono ?_
  rintro e w4 ⟨v1, rfl, hO, hb⟩
  have RSw4 := Lib.hid (show w4.heap[w2.heap.size]? = some (.cells (pairCells A1 B0) 28) from row_below hb RSwpc.out)
  have lRSw4 : w2.heap.size < w4.heap.size := row_lt RSw4.out
  have ROw4 := Lib.hid (show w4.heap[w2.heap.size + 1]? = some (.cells #[(.slice aoLX 1 cLX), (.slice none 0 0)] 40) from row_below hb ROwpc.out)
  have lROw4 : w2.heap.size + 1 < w4.heap.size := row_lt ROw4.out
  have RA1w4 := Lib.hid (show w4.heap[w3.heap.size]? = some (.cells A1.cells 27) from row_below hb RA1wpc.out)
  have lRA1w4 : w3.heap.size < w4.heap.size := row_lt RA1w4.out
  have LXw4 := Lib.hid (show ListOk (fun b => w2.heap.size + 1 + 1 ≤ b) w4 (.slice aoLX 1 cLX) [m1] from ListOk.keep LXwpc.out (kept_below hb))
  have HBw4 := Lib.hid (below_step HBwpc.out hb)
  clear hb
  have mLY_RS : w2.heap.size < wpc.heap.size := lRSwpc
  have mLY_RO : w2.heap.size + 1 < wpc.heap.size := lROwpc
  have mLY_RA1 : w3.heap.size < wpc.heap.size := lRA1wpc
  have hqLY : ListOk (fun b => wpc.heap.size ≤ b) w4 v1 [m2] := (hO.listOk (one_ok HG2.out) (Nat.le_trans (show _ ≤ 2 by first | (show 1 ≤ 2; decide) | (show 0 ≤ 2; decide) | (show 2 ≤ 2; decide)) (by unfold maxLen; decide))).mono (fun b q => Nat.le_trans (by first | exact Nat.le_refl _ | (simp only [World.size_alloc]; exact Nat.le_refl _)) q)
  obtain ⟨aoLY, cLY, rfl, hq1LY, hq2LY, hq3LY⟩ := hqLY
  have LYw4 := Lib.hid (show ListOk (fun b => wpc.heap.size ≤ b) w4 (.slice aoLY 1 cLY) [m2] from ⟨aoLY, cLY, rfl, hq1LY, hq2LY, hq3LY⟩)
  clear hO hq1LY hq2LY hq3LY
  have nRS_RB1 : w2.heap.size < w4.heap.size := lRSw4
  have nRO_RB1 : w2.heap.size + 1 < w4.heap.size := lROw4
  have nRA1_RB1 : w3.heap.size < w4.heap.size := lRA1w4
  have gRB1 : w.heap.size ≤ w4.heap.size := by have hh := Below.size HBw4.out; exact hh
  go_upto_region 10 with ((with_reducible refine wpList_store_rowTo rfl 27 (.tmp 16) (.tmp 57) rfl rfl (w4.heap.size) (B1.cells) ?_ ?_ 27 #[.int .u8 0, .int .u8 0, .int .u8 0, .int .u8 0, .int .u8 0, .int .u8 0, .int .u8 0, .int .u8 0, .int .u8 0, .int .u8 0, .int .u8 0, .int .u8 0, .int .u8 0, .int .i64 0, .int .i64 0, .int .i64 0, .int .i64 0] (heap_alloc_at rfl) HIB1.out rfl (one_cells _) ?_); (as_aux_lemma => kernel_rfl); (as_aux_lemma => kernel_rfl); rw [setRow_allocAt rfl])
  obtain ⟨wqa, hwq⟩ : ∃ wq, wq = (w4.alloc (.cells B1.cells 27)) := ⟨_, rfl⟩
  rw [← hwq]
  have hb : Below ((w4.alloc (.cells B1.cells 27))).heap.size (w4.alloc (.cells B1.cells 27)) wqa := by rw [hwq]; exact Below.refl _ _
  clear hwq
  have RSwqa := Lib.hid (show wqa.heap[w2.heap.size]? = some (.cells (pairCells A1 B0) 28) from row_below hb (row_alloc RSw4.out))
  have lRSwqa : w2.heap.size < wqa.heap.size := row_lt RSwqa.out
  have ROwqa := Lib.hid (show wqa.heap[w2.heap.size + 1]? = some (.cells #[(.slice aoLX 1 cLX), (.slice none 0 0)] 40) from row_below hb (row_alloc ROw4.out))
  have lROwqa : w2.heap.size + 1 < wqa.heap.size := row_lt ROwqa.out
  have RA1wqa := Lib.hid (show wqa.heap[w3.heap.size]? = some (.cells A1.cells 27) from row_below hb (row_alloc RA1w4.out))
  have lRA1wqa : w3.heap.size < wqa.heap.size := row_lt RA1wqa.out
  have RB1wqa := Lib.hid (show wqa.heap[w4.heap.size]? = some (.cells B1.cells 27) from row_below hb (heap_alloc_at rfl))
  have lRB1wqa : w4.heap.size < wqa.heap.size := row_lt RB1wqa.out
  have LXwqa := Lib.hid (show ListOk (fun b => w2.heap.size + 1 + 1 ≤ b) wqa (.slice aoLX 1 cLX) [m1] from ListOk.keep (ListOk.keep LXw4.out (kept_below ((Below.refl _ _).alloc (Nat.le_refl _) _))) (kept_below hb))
  have LYwqa := Lib.hid (show ListOk (fun b => wpc.heap.size ≤ b) wqa (.slice aoLY 1 cLY) [m2] from ListOk.keep (ListOk.keep LYw4.out (kept_below ((Below.refl _ _).alloc (Nat.le_refl _) _))) (kept_below hb))
  have HBwqa := Lib.hid (below_step (below_more HBw4.out (.cells B1.cells 27)) hb)
  clear hb
  have HTHwqa := Lib.hid (show wqa.there (w2.heap.size) 17 B1.cells.size from there_of_row RSwqa.out 17 17 (by rw [pair_size]; decide))
  go_upto_region 11 with (first
    | (with_reducible refine wpList_load_row rfl 27 (.tmp 16) rfl (w4.heap.size) rfl 27 (B1.cells) (0, 0) _ RB1wqa.out Try.underlying27 rfl HIB1.out ?_)
    | ((with_reducible refine wpList_store_midTo rfl rfl 27 (.tmp 62) (.tmp 60) rfl (w2.heap.size) 17 B1.cells ?_ ?_ HTHwqa.out HIB1.out (one_cells _) ?_); (as_aux_lemma => kernel_rfl); (as_aux_lemma => kernel_rfl); have RSwqb := Lib.hid (show (wqa.setCells (w2.heap.size) 17 B1.cells.toList).heap[w2.heap.size]? = some (.cells (pairCells A1 B1) 28) from (heap_setCells_same _ _ _ _ _ _ RSwqa.out).trans (by rw [put_pair1])); have lRSwqb : w2.heap.size < (wqa.setCells (w2.heap.size) 17 B1.cells.toList).heap.size := row_lt RSwqb.out; have ROwqb := Lib.hid (show (wqa.setCells (w2.heap.size) 17 B1.cells.toList).heap[w2.heap.size + 1]? = some (.cells #[(.slice aoLX 1 cLX), (.slice none 0 0)] 40) from (heap_setCells_far _ _ _ _ _ (Nat.ne_of_gt nRS_RO)).trans ROwqa.out); have lROwqb : w2.heap.size + 1 < (wqa.setCells (w2.heap.size) 17 B1.cells.toList).heap.size := row_lt ROwqb.out; have RA1wqb := Lib.hid (show (wqa.setCells (w2.heap.size) 17 B1.cells.toList).heap[w3.heap.size]? = some (.cells A1.cells 27) from (heap_setCells_far _ _ _ _ _ (Nat.ne_of_gt nRS_RA1)).trans RA1wqa.out); have lRA1wqb : w3.heap.size < (wqa.setCells (w2.heap.size) 17 B1.cells.toList).heap.size := row_lt RA1wqb.out; have RB1wqb := Lib.hid (show (wqa.setCells (w2.heap.size) 17 B1.cells.toList).heap[w4.heap.size]? = some (.cells B1.cells 27) from (heap_setCells_far _ _ _ _ _ (Nat.ne_of_gt nRS_RB1)).trans RB1wqa.out); have lRB1wqb : w4.heap.size < (wqa.setCells (w2.heap.size) 17 B1.cells.toList).heap.size := row_lt RB1wqb.out; have LXwqb := Lib.hid (show ListOk (fun b => w2.heap.size + 1 + 1 ≤ b) (wqa.setCells (w2.heap.size) 17 B1.cells.toList) (.slice aoLX 1 cLX) [m1] from ListOk.keep LXwqa.out (kept_setCells (Nat.not_le_of_lt mLX_RS))); have LYwqb := Lib.hid (show ListOk (fun b => wpc.heap.size ≤ b) (wqa.setCells (w2.heap.size) 17 B1.cells.toList) (.slice aoLY 1 cLY) [m2] from ListOk.keep LYwqa.out (kept_setCells (Nat.not_le_of_lt mLY_RS))); have HBwqb := Lib.hid (below_setCells' gRS B1.cells.toList 17 _ _ HBwqa.out); generalize hgen : wqa.setCells (w2.heap.size) 17 B1.cells.toList = wqb at *; clear hgen; have z0wq : wqb.cell? ⟨w2.heap.size + 1, 0, none⟩ = some (.slice aoLX 1 cLX) := (cell_of_row _ _ _ _ _ _ ROwqb.out).trans rfl; have z1wq : wqb.cell? ⟨w2.heap.size + 1, 1, none⟩ = some (.slice none 0 0) := (cell_of_row _ _ _ _ _ _ ROwqb.out).trans rfl; have zfwq : ∀ o, wqb.frozen? ⟨w2.heap.size + 1, o, none⟩ = false := fun o => frozen_of_row _ _ _ _ _ ROwqb.out))
  have RSwqc := Lib.hid (show (wqb.setCell ⟨w2.heap.size + 1, 1, none⟩ (.slice aoLY 1 cLY)).heap[w2.heap.size]? = some (.cells (pairCells A1 B1) 28) from row_set (Nat.ne_of_lt nRS_RO) RSwqb.out)
  have lRSwqc : w2.heap.size < (wqb.setCell ⟨w2.heap.size + 1, 1, none⟩ (.slice aoLY 1 cLY)).heap.size := row_lt RSwqc.out
  have ROwqc := Lib.hid (show (wqb.setCell ⟨w2.heap.size + 1, 1, none⟩ (.slice aoLY 1 cLY)).heap[w2.heap.size + 1]? = some (.cells #[(.slice aoLX 1 cLX), (.slice aoLY 1 cLY)] 40) from heap_setCell_same _ _ 1 _ _ _ ROwqb.out)
  have lROwqc : w2.heap.size + 1 < (wqb.setCell ⟨w2.heap.size + 1, 1, none⟩ (.slice aoLY 1 cLY)).heap.size := row_lt ROwqc.out
  have RA1wqc := Lib.hid (show (wqb.setCell ⟨w2.heap.size + 1, 1, none⟩ (.slice aoLY 1 cLY)).heap[w3.heap.size]? = some (.cells A1.cells 27) from row_set (Nat.ne_of_gt nRO_RA1) RA1wqb.out)
  have lRA1wqc : w3.heap.size < (wqb.setCell ⟨w2.heap.size + 1, 1, none⟩ (.slice aoLY 1 cLY)).heap.size := row_lt RA1wqc.out
  have RB1wqc := Lib.hid (show (wqb.setCell ⟨w2.heap.size + 1, 1, none⟩ (.slice aoLY 1 cLY)).heap[w4.heap.size]? = some (.cells B1.cells 27) from row_set (Nat.ne_of_gt nRO_RB1) RB1wqb.out)
  have lRB1wqc : w4.heap.size < (wqb.setCell ⟨w2.heap.size + 1, 1, none⟩ (.slice aoLY 1 cLY)).heap.size := row_lt RB1wqc.out
  have LXwqc := Lib.hid (show ListOk (fun b => w2.heap.size + 1 + 1 ≤ b) (wqb.setCell ⟨w2.heap.size + 1, 1, none⟩ (.slice aoLY 1 cLY)) (.slice aoLX 1 cLX) [m1] from ListOk.keep LXwqb.out (kept_setCell (Nat.not_le_of_lt mLX_RO)))
  have LYwqc := Lib.hid (show ListOk (fun b => wpc.heap.size ≤ b) (wqb.setCell ⟨w2.heap.size + 1, 1, none⟩ (.slice aoLY 1 cLY)) (.slice aoLY 1 cLY) [m2] from ListOk.keep LYwqb.out (kept_setCell (Nat.not_le_of_lt mLY_RO)))
  have HBwqc := Lib.hid (Below.setCell (p := ⟨w2.heap.size + 1, 1, none⟩) HBwqb.out gRO (.slice aoLY 1 cLY))
  generalize hgen : wqb.setCell ⟨w2.heap.size + 1, 1, none⟩ (.slice aoLY 1 cLY) = wqc at *
  clear hgen
  have HIO := Lib.hid (out_info (.slice aoLX 1 cLX) (.slice aoLY 1 cLY))
  have HIPQ := Lib.hid (pair_info A1 B1)
  go_wp2_with (first
    | (with_reducible refine wpList_load_row rfl 28 (.tmp 10) rfl (w2.heap.size) rfl 28 (pairCells A1 B1) (0, 0) _ RSwqc.out Try.underlying28 rfl HIPQ.out ?_)
    | (with_reducible refine wpList_load_row rfl 40 (.tmp 12) rfl (w2.heap.size + 1) rfl 40 #[(.slice aoLX 1 cLX), (.slice aoLY 1 cLY)] (0, 0) _ ROwqc.out Try.underlying40 rfl HIO.out ?_))
  refine (passed_of HP.out (.slice aoLX 1 cLX) (.slice aoLY 1 cLY) YA.out YB.out (one_ok HG1.out) (one_ok HG2.out) (show 1 + 1 ≤ 800 by decide) _ LXwqc.out.listIn LYwqc.out.listIn).mono ?_
  rintro e w5 ⟨rfl, hb⟩
  have RSw5 := Lib.hid (show w5.heap[w2.heap.size]? = some (.cells (pairCells A1 B1) 28) from row_below hb RSwqc.out)
  have lRSw5 : w2.heap.size < w5.heap.size := row_lt RSw5.out
  have ROw5 := Lib.hid (show w5.heap[w2.heap.size + 1]? = some (.cells #[(.slice aoLX 1 cLX), (.slice aoLY 1 cLY)] 40) from row_below hb ROwqc.out)
  have lROw5 : w2.heap.size + 1 < w5.heap.size := row_lt ROw5.out
  have RA1w5 := Lib.hid (show w5.heap[w3.heap.size]? = some (.cells A1.cells 27) from row_below hb RA1wqc.out)
  have lRA1w5 : w3.heap.size < w5.heap.size := row_lt RA1w5.out
  have RB1w5 := Lib.hid (show w5.heap[w4.heap.size]? = some (.cells B1.cells 27) from row_below hb RB1wqc.out)
  have lRB1w5 : w4.heap.size < w5.heap.size := row_lt RB1w5.out
  have LXw5 := Lib.hid (show ListOk (fun b => w2.heap.size + 1 + 1 ≤ b) w5 (.slice aoLX 1 cLX) [m1] from ListOk.keep LXwqc.out (kept_below hb))
  have LYw5 := Lib.hid (show ListOk (fun b => wpc.heap.size ≤ b) w5 (.slice aoLY 1 cLY) [m2] from ListOk.keep LYwqc.out (kept_below hb))
  have HBw5 := Lib.hid (below_step HBwqc.out hb)
  clear hb
  go_upto_region 13 with ((with_reducible refine wpList_store_rowTo rfl 28 (.tmp 10) (.tmp 70) rfl rfl (w2.heap.size) (pairCells pa pb) ?_ ?_ 28 ((pairCells A1 B1)) RSw5.out HIPP.out rfl (pair_one _ _) ?_); (as_aux_lemma => kernel_rfl); (as_aux_lemma => kernel_rfl))
  have RSw6 := Lib.hid (show (w5.setRow (w2.heap.size) (pairCells pa pb)).heap[w2.heap.size]? = some (.cells (pairCells pa pb) 28) from setRow_heap _ _ _ _ _ _ RSw5.out)
  have lRSw6 : w2.heap.size < (w5.setRow (w2.heap.size) (pairCells pa pb)).heap.size := row_lt RSw6.out
  have HBw6 := Lib.hid (below_setRow' HBw5.out gRS (pairCells pa pb))
  generalize hgen : w5.setRow (w2.heap.size) (pairCells pa pb) = w6 at *
  clear hgen
  go_wp2_with (((with_reducible refine wpList_load_subG ?_ 28 (.tmp 10) rfl (w2.heap.size) 0 rfl (pairCells pa pb) _ (range_row RSw6.out) Try.underlying28 rfl HIPP.out ?_); (as_aux_lemma => kernel_rfl)))
  refine (paired_any pa pb _).mono ?_
  rintro e w7 ⟨rfl, hb⟩
  have RSw7 := Lib.hid (show w7.heap[w2.heap.size]? = some (.cells (pairCells pa pb) 28) from row_below hb RSw6.out)
  have lRSw7 : w2.heap.size < w7.heap.size := row_lt RSw7.out
  have HBw7 := Lib.hid (below_step HBw6.out hb)
  clear hb
  simp only [HPP.out]
  go_wp2_with (((with_reducible refine wpList_load_sub rfl 27 (.tmp 92) rfl (w2.heap.size) 17 rfl pb.cells _ (range_pair1 RSw7.out) Try.underlying27 rfl HIpb.out ?_)))
  refine (CC.out _).mono ?_
  rintro e w8 ⟨v1, rfl, hO, hb⟩
  have RSw8 := Lib.hid (show w8.heap[w2.heap.size]? = some (.cells (pairCells pa pb) 28) from row_below hb RSw7.out)
  have lRSw8 : w2.heap.size < w8.heap.size := row_lt RSw8.out
  have HBw8 := Lib.hid (below_step HBw7.out hb)
  clear hb
  have mLZ_RS : w2.heap.size < w7.heap.size := lRSw7
  have hqLZ : ListOk (fun b => w7.heap.size ≤ b) w8 v1 [m3] := (hO.listOk (one_ok HG3.out) (Nat.le_trans (show _ ≤ 2 by first | (show 1 ≤ 2; decide) | (show 0 ≤ 2; decide) | (show 2 ≤ 2; decide)) (by unfold maxLen; decide))).mono (fun b q => Nat.le_trans (by first | exact Nat.le_refl _ | (simp only [World.size_alloc]; exact Nat.le_refl _)) q)
  obtain ⟨aoLZ, cLZ, rfl, hq1LZ, hq2LZ, hq3LZ⟩ := hqLZ
  have LZw8 := Lib.hid (show ListOk (fun b => w7.heap.size ≤ b) w8 (.slice aoLZ 1 cLZ) [m3] from ⟨aoLZ, cLZ, rfl, hq1LZ, hq2LZ, hq3LZ⟩)
  clear hO hq1LZ hq2LZ hq3LZ
  have nRS_RC : w2.heap.size < w8.heap.size := lRSw8
  have gRC : w.heap.size ≤ w8.heap.size := by have hh := Below.size HBw8.out; exact hh
  go_upto_region 19 with ((with_reducible refine wpList_store_rowTo rfl 27 (.tmp 21) (.tmp 95) rfl rfl (w8.heap.size) (kc.cells) ?_ ?_ 27 #[.int .u8 0, .int .u8 0, .int .u8 0, .int .u8 0, .int .u8 0, .int .u8 0, .int .u8 0, .int .u8 0, .int .u8 0, .int .u8 0, .int .u8 0, .int .u8 0, .int .u8 0, .int .i64 0, .int .i64 0, .int .i64 0, .int .i64 0] (heap_alloc_at rfl) HIkc.out rfl (one_cells _) ?_); (as_aux_lemma => kernel_rfl); (as_aux_lemma => kernel_rfl); rw [setRow_allocAt rfl])
  obtain ⟨w9, hwq⟩ : ∃ wq, wq = (w8.alloc (.cells kc.cells 27)) := ⟨_, rfl⟩
  rw [← hwq]
  have hb : Below ((w8.alloc (.cells kc.cells 27))).heap.size (w8.alloc (.cells kc.cells 27)) w9 := by rw [hwq]; exact Below.refl _ _
  clear hwq
  have RSw9 := Lib.hid (show w9.heap[w2.heap.size]? = some (.cells (pairCells pa pb) 28) from row_below hb (row_alloc RSw8.out))
  have lRSw9 : w2.heap.size < w9.heap.size := row_lt RSw9.out
  have RCw9 := Lib.hid (show w9.heap[w8.heap.size]? = some (.cells kc.cells 27) from row_below hb (heap_alloc_at rfl))
  have lRCw9 : w8.heap.size < w9.heap.size := row_lt RCw9.out
  have LZw9 := Lib.hid (show ListOk (fun b => w7.heap.size ≤ b) w9 (.slice aoLZ 1 cLZ) [m3] from ListOk.keep (ListOk.keep LZw8.out (kept_below ((Below.refl _ _).alloc (Nat.le_refl _) _))) (kept_below hb))
  have HBw9 := Lib.hid (below_step (below_more HBw8.out (.cells kc.cells 27)) hb)
  clear hb
  obtain ⟨zb, zo, zm, rfl, hzb, hzm, hzi⟩ := ListOk.one LZw9.out
  have HZI := Lib.hid hzi
  clear hzi
  go_cut [24, 25, 26] (fun t10 t11 t12 wx => ∃ T v2, t10 = .pointer (some ⟨T, 0, none⟩) ∧ t11 = v2 ∧ t12 = .int .i64 0 ∧ w9.heap.size ≤ T ∧ wx.heap[T]? = some (.cells kd.cells 27) ∧ Below w9.heap.size w9 wx ∧ ListOk (fun b => w9.heap.size ≤ b) wx v2 [m4])
  case first =>
    refine wp_region_held_drew (S := fun w' => Below w9.heap.size w9 w') (by kernel_rfl) ((Below.refl _ _).drew) (fun hHeld => ?_)
    refine wpAnyH_take (i := 0) (v := .int .i64 1) rfl (by kernel_rfl) (by kernel_rfl) (by kernel_rfl) (fun _ _ _ h => h) (Or.inl ⟨by rfl, by intro w hSw; clear hHeld hSw; go_simp; (try rfl)⟩) (by assumption) ?_
    simp only [Act.put, List.setIfInBounds_toArray, List.set_cons_zero, List.set_cons_succ, List.getElem_toArray, List.getElem_cons_succ, List.getElem_cons_zero]
    refine wpAnyH_take (i := 1) (v := .int .i64 0) rfl (by kernel_rfl) (by kernel_rfl) (by kernel_rfl) (fun _ _ _ h => h) (Or.inl ⟨by rfl, by intro w hSw; clear hHeld hSw; go_simp; (try rfl)⟩) (by assumption) ?_
    simp only [Act.put, List.setIfInBounds_toArray, List.set_cons_zero, List.set_cons_succ, List.getElem_toArray, List.getElem_cons_succ, List.getElem_cons_zero]
    refine wpAnyH_take (i := 2) (v := .pointer (some ⟨w2.heap.size, 0, none⟩)) rfl (by kernel_rfl) (by kernel_rfl) (by kernel_rfl) (fun _ _ _ h => h) (Or.inl ⟨by rfl, by intro w hSw; clear hHeld hSw; go_simp; (try rfl)⟩) (by assumption) ?_
    simp only [Act.put, List.setIfInBounds_toArray, List.set_cons_zero, List.set_cons_succ, List.getElem_toArray, List.getElem_cons_succ, List.getElem_cons_zero]
    refine wpAnyH_take (i := 3) (v := .agg pa.cells) rfl (by kernel_rfl) (by kernel_rfl) (by kernel_rfl) (fun _ _ _ h => h) (yields_sub (by rfl) 27 _ rfl (w2.heap.size) 0 (by rfl) pa.cells _ (fun w' h' => range_pair0 (row_below h' RSw9.out)) Try.underlying27 rfl HIpa.out) (by assumption) ?_
    simp only [Act.put, List.setIfInBounds_toArray, List.set_cons_zero, List.set_cons_succ, List.getElem_toArray, List.getElem_cons_succ, List.getElem_cons_zero]
    refine wpAnyH_take (i := 4) (v := .slice (some ⟨zb, zo, none⟩) 1 cLZ) rfl (by kernel_rfl) (by kernel_rfl) (by kernel_rfl) (fun _ _ _ h => h) (Or.inl ⟨by rfl, by intro w hSw; clear hHeld hSw; go_simp; (try rfl)⟩) (by assumption) ?_
    simp only [Act.put, List.setIfInBounds_toArray, List.set_cons_zero, List.set_cons_succ, List.getElem_toArray, List.getElem_cons_succ, List.getElem_cons_zero]
    refine wpAnyH_take (i := 5) (v := .pointer (some ⟨zb, zo, none⟩)) rfl (by kernel_rfl) (by kernel_rfl) (by kernel_rfl) (fun _ _ _ h => h) (Or.inl ⟨by rfl, by intro w hSw; clear hHeld hSw; go_simp; (try rfl)⟩) (by assumption) ?_
    simp only [Act.put, List.setIfInBounds_toArray, List.set_cons_zero, List.set_cons_succ, List.getElem_toArray, List.getElem_cons_succ, List.getElem_cons_zero]
    refine wpAnyH_take (i := 6) (v := zm) rfl (by kernel_rfl) (by kernel_rfl) (by kernel_rfl) (fun _ _ _ h => h) (Or.inl ⟨by rfl, by intro w hSw; have tq := below_kept hSw hzm; clear hHeld hSw; go_simp⟩) (by assumption) ?_
    simp only [Act.put, List.setIfInBounds_toArray, List.set_cons_zero, List.set_cons_succ, List.getElem_toArray, List.getElem_cons_succ, List.getElem_cons_zero]
    refine wpAnyH_ready (rs := [7, 12]) (by kernel_rfl) (by simp) ?_
    refine AllReadyH.cons (i := 7) (rs := [12]) rfl ?_ (AllReadyH.cons (i := 12) (rs := []) rfl ?_ AllReadyH.nil)
    · intro Kq hKq
      simp only [List.getElem_toArray, List.getElem_cons_succ, List.getElem_cons_zero]
      rw [if_pos (by rfl)]
      have HSZ0 : w9.heap.size ≤ (w9.drew).heap.size := hHeld.size
      refine wp_call_fn 20 #[.agg pa.cells, zm, .int .i64 10] (_) (by as_aux_lemma => kernel_rfl) (CH.out _ zm HZI.out) ?_
      rintro e w1 ⟨v2, rfl, hO, hb⟩
      refine ⟨.tuple #[.agg kd.cells, v2, .int .i64 0], rfl, ?_⟩
      have HB1 := Lib.hid (hHeld.trans (hb.mono HSZ0))
      have HBZ : w9.heap.size ≤ w1.heap.size := HB1.out.size
      refine hKq.out _ _ (HB1.out) (fun hHeld2 => ?_)
      clear hKq Kq hHeld
      have hHeld := hHeld2
      clear hHeld2
      simp only [Act.put, List.setIfInBounds_toArray, List.set_cons_zero, List.set_cons_succ]
      refine wpAnyH_take (i := 8) (v := .tuple #[.agg kd.cells, v2, .int .i64 0]) rfl (by kernel_rfl) (by kernel_rfl) (by kernel_rfl) (fun _ _ _ h => h) (Or.inl ⟨by rfl, by intro w hSw; clear hHeld hSw; go_simp; (try rfl)⟩) (by assumption) ?_
      simp only [Act.put, List.setIfInBounds_toArray, List.set_cons_zero, List.set_cons_succ, List.getElem_toArray, List.getElem_cons_succ, List.getElem_cons_zero]
      refine wpAnyH_take (i := 9) (v := .agg kd.cells) rfl (by kernel_rfl) (by kernel_rfl) (by kernel_rfl) (fun _ _ _ h => h) (Or.inl ⟨by rfl, by intro w hSw; clear hHeld hSw; go_simp; (try rfl)⟩) (by assumption) ?_
      simp only [Act.put, List.setIfInBounds_toArray, List.set_cons_zero, List.set_cons_succ, List.getElem_toArray, List.getElem_cons_succ, List.getElem_cons_zero]
      refine wpAnyH_take (i := 10) (v := v2) rfl (by kernel_rfl) (by kernel_rfl) (by kernel_rfl) (fun _ _ _ h => h) (Or.inl ⟨by rfl, by intro w hSw; clear hHeld hSw; go_simp; (try rfl)⟩) (by assumption) ?_
      simp only [Act.put, List.setIfInBounds_toArray, List.set_cons_zero, List.set_cons_succ, List.getElem_toArray, List.getElem_cons_succ, List.getElem_cons_zero]
      refine wpAnyH_take (i := 11) (v := .int .i64 0) rfl (by kernel_rfl) (by kernel_rfl) (by kernel_rfl) (fun _ _ _ h => h) (Or.inl ⟨by rfl, by intro w hSw; clear hHeld hSw; go_simp; (try rfl)⟩) (by assumption) ?_
      simp only [Act.put, List.setIfInBounds_toArray, List.set_cons_zero, List.set_cons_succ, List.getElem_toArray, List.getElem_cons_succ, List.getElem_cons_zero]
      refine wpAnyH_ready (rs := [12]) (by kernel_rfl) (by simp) ?_
      refine AllReadyH.cons (i := 12) (rs := []) rfl ?_ AllReadyH.nil
      intro Kq hKq
      simp only [List.getElem_toArray, List.getElem_cons_succ, List.getElem_cons_zero]
      rw [if_pos (by rfl)]
      have HTA : w9.heap.size ≤ w1.heap.size := hHeld.size
      refine wp_op_value (.pointer (some ⟨w1.heap.size, 0, none⟩)) (w1.alloc (.cells #[.int .u8 0, .int .u8 0, .int .u8 0, .int .u8 0, .int .u8 0, .int .u8 0, .int .u8 0, .int .u8 0, .int .u8 0, .int .u8 0, .int .u8 0, .int .u8 0, .int .u8 0, .int .i64 0, .int .i64 0, .int .i64 0, .int .i64 0] 27)) (by as_aux_lemma => kernel_rfl) ?_
      refine hKq.out _ _ ((hHeld.alloc hHeld.size _)) (fun hHeld2 => ?_)
      clear hKq Kq hHeld
      have hHeld := hHeld2
      clear hHeld2
      simp only [Act.put, List.setIfInBounds_toArray, List.set_cons_zero, List.set_cons_succ]
      have HBA := Lib.hid (show Below w9.heap.size w9 (w1.alloc (.cells kd.cells 27)) from HB1.out.alloc HBZ _)
      refine wpAnyH_ready (rs := [13]) (by kernel_rfl) (by simp) ?_
      refine AllReadyH.cons (i := 13) (rs := []) rfl ?_ AllReadyH.nil
      intro Kq hKq
      simp only [List.getElem_toArray, List.getElem_cons_succ, List.getElem_cons_zero]
      rw [if_pos (by rfl)]
      refine wp_store_row 27 (.tmp 24) (.tmp 114) (by rfl) (w1.heap.size) kd.cells (by as_aux_lemma => kernel_rfl) (by as_aux_lemma => kernel_rfl) 27 #[.int .u8 0, .int .u8 0, .int .u8 0, .int .u8 0, .int .u8 0, .int .u8 0, .int .u8 0, .int .u8 0, .int .u8 0, .int .u8 0, .int .u8 0, .int .u8 0, .int .u8 0, .int .i64 0, .int .i64 0, .int .i64 0, .int .i64 0] (heap_alloc_new _ _) HIkd.out (by as_aux_lemma => kernel_rfl) (one_cells _) ?_
      rw [setRow_alloc]
      refine hKq.out _ _ (HBA.out) (fun hHeld2 => ?_)
      clear hKq Kq hHeld
      have hHeld := hHeld2
      clear hHeld2
      simp only [Act.put, List.setIfInBounds_toArray, List.set_cons_zero, List.set_cons_succ]
      refine wpAnyH_take (i := 14) (v := v2) rfl (by kernel_rfl) (by kernel_rfl) (by kernel_rfl) (fun _ _ _ h => h) (Or.inl ⟨by rfl, by intro w hSw; clear hHeld hSw; go_simp; (try rfl)⟩) (by assumption) ?_
      simp only [Act.put, List.setIfInBounds_toArray, List.set_cons_zero, List.set_cons_succ, List.getElem_toArray, List.getElem_cons_succ, List.getElem_cons_zero]
      refine wpAnyH_take (i := 15) (v := .int .i64 0) rfl (by kernel_rfl) (by kernel_rfl) (by kernel_rfl) (fun _ _ _ h => h) (Or.inl ⟨by rfl, by intro w hSw; clear hHeld hSw; go_simp; (try rfl)⟩) (by assumption) ?_
      simp only [Act.put, List.setIfInBounds_toArray, List.set_cons_zero, List.set_cons_succ, List.getElem_toArray, List.getElem_cons_succ, List.getElem_cons_zero]
      clear hHeld
      refine wpAnyH_done (by kernel_rfl) ?_ _
      have HT : w9.heap.size ≤ w1.heap.size ∧ (w1.alloc (.cells kd.cells 27)).heap[w1.heap.size]? = some (.cells kd.cells 27) ∧ Below w9.heap.size w9 (w1.alloc (.cells kd.cells 27)) ∧ ListOk (fun b => w9.heap.size ≤ b) (w1.alloc (.cells kd.cells 27)) v2 [m4] := ⟨HBZ, heap_alloc_new _ _, HBA.out, ((hO.listOk (one_ok HG4.out) (Nat.le_trans (show 1 ≤ 2 by decide) (by unfold maxLen; decide))).mono (fun b q => Nat.le_trans HSZ0 q)).keep (kept_below ((Below.refl _ _).alloc (Nat.le_refl _) _))⟩
      go_wp2_with fail
      go_meet
      case rel => exact ⟨_, _, rfl, rfl, rfl, HT⟩
    · intro Kq hKq
      simp only [List.getElem_toArray, List.getElem_cons_succ, List.getElem_cons_zero]
      rw [if_pos (by rfl)]
      have HTA : w9.heap.size ≤ w9.heap.size := hHeld.size
      refine wp_op_value (.pointer (some ⟨w9.heap.size, 0, none⟩)) (w9.drew.alloc (.cells #[.int .u8 0, .int .u8 0, .int .u8 0, .int .u8 0, .int .u8 0, .int .u8 0, .int .u8 0, .int .u8 0, .int .u8 0, .int .u8 0, .int .u8 0, .int .u8 0, .int .u8 0, .int .i64 0, .int .i64 0, .int .i64 0, .int .i64 0] 27)) (by as_aux_lemma => kernel_rfl) ?_
      refine hKq.out _ _ ((hHeld.alloc hHeld.size _)) (fun hHeld2 => ?_)
      clear hKq Kq hHeld
      have hHeld := hHeld2
      clear hHeld2
      simp only [Act.put, List.setIfInBounds_toArray, List.set_cons_zero, List.set_cons_succ]
      refine wpAnyH_ready (rs := [7]) (by kernel_rfl) (by simp) ?_
      refine AllReadyH.cons (i := 7) (rs := []) rfl ?_ AllReadyH.nil
      intro Kq hKq
      simp only [List.getElem_toArray, List.getElem_cons_succ, List.getElem_cons_zero]
      rw [if_pos (by rfl)]
      have HSZ0 : w9.heap.size ≤ ((w9.drew.alloc (.cells #[.int .u8 0, .int .u8 0, .int .u8 0, .int .u8 0, .int .u8 0, .int .u8 0, .int .u8 0, .int .u8 0, .int .u8 0, .int .u8 0, .int .u8 0, .int .u8 0, .int .u8 0, .int .i64 0, .int .i64 0, .int .i64 0, .int .i64 0] 27))).heap.size := hHeld.size
      refine wp_call_fn 20 #[.agg pa.cells, zm, .int .i64 10] (_) (by as_aux_lemma => kernel_rfl) (CH.out _ zm (HZI.out.below ((Below.refl _ _).drew.alloc (Nat.le_refl _) _))) ?_
      rintro e w1 ⟨v2, rfl, hO, hb⟩
      refine ⟨.tuple #[.agg kd.cells, v2, .int .i64 0], rfl, ?_⟩
      have HB1 := Lib.hid (hHeld.trans (hb.mono HSZ0))
      have HBZ : w9.heap.size ≤ w1.heap.size := HB1.out.size
      refine hKq.out _ _ (HB1.out) (fun hHeld2 => ?_)
      clear hKq Kq hHeld
      have hHeld := hHeld2
      clear hHeld2
      simp only [Act.put, List.setIfInBounds_toArray, List.set_cons_zero, List.set_cons_succ]
      have HRT := Lib.hid (row_below hb (heap_alloc_new _ _))
      have HTL : w9.heap.size < ((w9.drew.alloc (.cells #[.int .u8 0, .int .u8 0, .int .u8 0, .int .u8 0, .int .u8 0, .int .u8 0, .int .u8 0, .int .u8 0, .int .u8 0, .int .u8 0, .int .u8 0, .int .u8 0, .int .u8 0, .int .i64 0, .int .i64 0, .int .i64 0, .int .i64 0] 27))).heap.size := lt_alloc _ _
      refine wpAnyH_take (i := 8) (v := .tuple #[.agg kd.cells, v2, .int .i64 0]) rfl (by kernel_rfl) (by kernel_rfl) (by kernel_rfl) (fun _ _ _ h => h) (Or.inl ⟨by rfl, by intro w hSw; clear hHeld hSw; go_simp; (try rfl)⟩) (by assumption) ?_
      simp only [Act.put, List.setIfInBounds_toArray, List.set_cons_zero, List.set_cons_succ, List.getElem_toArray, List.getElem_cons_succ, List.getElem_cons_zero]
      refine wpAnyH_take (i := 9) (v := .agg kd.cells) rfl (by kernel_rfl) (by kernel_rfl) (by kernel_rfl) (fun _ _ _ h => h) (Or.inl ⟨by rfl, by intro w hSw; clear hHeld hSw; go_simp; (try rfl)⟩) (by assumption) ?_
      simp only [Act.put, List.setIfInBounds_toArray, List.set_cons_zero, List.set_cons_succ, List.getElem_toArray, List.getElem_cons_succ, List.getElem_cons_zero]
      refine wpAnyH_take (i := 10) (v := v2) rfl (by kernel_rfl) (by kernel_rfl) (by kernel_rfl) (fun _ _ _ h => h) (Or.inl ⟨by rfl, by intro w hSw; clear hHeld hSw; go_simp; (try rfl)⟩) (by assumption) ?_
      simp only [Act.put, List.setIfInBounds_toArray, List.set_cons_zero, List.set_cons_succ, List.getElem_toArray, List.getElem_cons_succ, List.getElem_cons_zero]
      refine wpAnyH_take (i := 11) (v := .int .i64 0) rfl (by kernel_rfl) (by kernel_rfl) (by kernel_rfl) (fun _ _ _ h => h) (Or.inl ⟨by rfl, by intro w hSw; clear hHeld hSw; go_simp; (try rfl)⟩) (by assumption) ?_
      simp only [Act.put, List.setIfInBounds_toArray, List.set_cons_zero, List.set_cons_succ, List.getElem_toArray, List.getElem_cons_succ, List.getElem_cons_zero]
      have HBA := Lib.hid (show Below w9.heap.size w9 (w1.setRow (w9.heap.size) kd.cells) from below_setRow' HB1.out HTA _)
      refine wpAnyH_ready (rs := [13]) (by kernel_rfl) (by simp) ?_
      refine AllReadyH.cons (i := 13) (rs := []) rfl ?_ AllReadyH.nil
      intro Kq hKq
      simp only [List.getElem_toArray, List.getElem_cons_succ, List.getElem_cons_zero]
      rw [if_pos (by rfl)]
      refine wp_store_row 27 (.tmp 24) (.tmp 114) (by rfl) (w9.heap.size) kd.cells (by as_aux_lemma => kernel_rfl) (by as_aux_lemma => kernel_rfl) 27 #[.int .u8 0, .int .u8 0, .int .u8 0, .int .u8 0, .int .u8 0, .int .u8 0, .int .u8 0, .int .u8 0, .int .u8 0, .int .u8 0, .int .u8 0, .int .u8 0, .int .u8 0, .int .i64 0, .int .i64 0, .int .i64 0, .int .i64 0] HRT.out HIkd.out (by as_aux_lemma => kernel_rfl) (one_cells _) ?_
      refine hKq.out _ _ (HBA.out) (fun hHeld2 => ?_)
      clear hKq Kq hHeld
      have hHeld := hHeld2
      clear hHeld2
      simp only [Act.put, List.setIfInBounds_toArray, List.set_cons_zero, List.set_cons_succ]
      refine wpAnyH_take (i := 14) (v := v2) rfl (by kernel_rfl) (by kernel_rfl) (by kernel_rfl) (fun _ _ _ h => h) (Or.inl ⟨by rfl, by intro w hSw; clear hHeld hSw; go_simp; (try rfl)⟩) (by assumption) ?_
      simp only [Act.put, List.setIfInBounds_toArray, List.set_cons_zero, List.set_cons_succ, List.getElem_toArray, List.getElem_cons_succ, List.getElem_cons_zero]
      refine wpAnyH_take (i := 15) (v := .int .i64 0) rfl (by kernel_rfl) (by kernel_rfl) (by kernel_rfl) (fun _ _ _ h => h) (Or.inl ⟨by rfl, by intro w hSw; clear hHeld hSw; go_simp; (try rfl)⟩) (by assumption) ?_
      simp only [Act.put, List.setIfInBounds_toArray, List.set_cons_zero, List.set_cons_succ, List.getElem_toArray, List.getElem_cons_succ, List.getElem_cons_zero]
      clear hHeld
      refine wpAnyH_done (by kernel_rfl) ?_ _
      have HT : w9.heap.size ≤ w9.heap.size ∧ (w1.setRow (w9.heap.size) kd.cells).heap[w9.heap.size]? = some (.cells kd.cells 27) ∧ Below w9.heap.size w9 (w1.setRow (w9.heap.size) kd.cells) ∧ ListOk (fun b => w9.heap.size ≤ b) (w1.setRow (w9.heap.size) kd.cells) v2 [m4] := ⟨HTA, setRow_heap _ _ _ _ _ _ HRT.out, HBA.out, ((hO.setRow (w9.heap.size) HTL kd.cells).listOk (one_ok HG4.out) (Nat.le_trans (show 1 ≤ 2 by decide) (by unfold maxLen; decide))).mono (fun b q => Nat.le_trans HSZ0 q)⟩
      go_wp2_with fail
      go_meet
      case rel => exact ⟨_, _, rfl, rfl, rfl, HT⟩
  case rest =>
    obtain ⟨T, v2, rfl, rfl, rfl, hT, rT, hb, lx⟩ := hcut
    obtain ⟨ao7, n7, c7, rfl⟩ : ∃ ao n c, u25 = .slice ao n c := by obtain ⟨ao, c, e, _⟩ := lx; exact ⟨ao, _, c, e⟩
    obtain ⟨yb, yo, ym, e7, hyb, hym, hyi⟩ := lx.one
    obtain ⟨_, _, e8, _⟩ := lx
    cases e8
    subst e7
    have RT := Lib.hid rT
    have HYI := Lib.hid hyi
    clear rT hyi
    have hTl : T < wc.heap.size := row_lt RT.out
    have RSwc := Lib.hid (show wc.heap[w2.heap.size]? = some (.cells (pairCells pa pb) 28) from row_below hb RSw9.out)
    have lRSwc : w2.heap.size < wc.heap.size := row_lt RSwc.out
    have RCwc := Lib.hid (show wc.heap[w8.heap.size]? = some (.cells kc.cells 27) from row_below hb RCw9.out)
    have lRCwc : w8.heap.size < wc.heap.size := row_lt RCwc.out
    have HBwc := Lib.hid (below_step HBw9.out hb)
    clear hb
    have lRTwc : T < wc.heap.size := hTl
    have nRS_RT : w2.heap.size < T := Nat.lt_of_lt_of_le lRSw9 hT
    have zs : wc.cell? ⟨T, 12, none⟩ = some (.int .u8 5) := by rw [cell_of_row _ _ _ _ _ _ RT.out, lk_st, HST.out]
    go_upto_region 22 with fail
    clear zs
    refine wp_region_held_drew (S := fun w' => w'.heap[w8.heap.size]? = some (.cells kc.cells 27) ∧ w'.cell? ⟨yb, yo, none⟩ = some ym) (by kernel_rfl) (⟨RCwc.out, hym⟩) (fun hHeld => ?_)
    refine wpAnyH_take (i := 0) (v := .int .i64 1) rfl (by kernel_rfl) (by kernel_rfl) (by kernel_rfl) (fun _ _ _ h => h) (Or.inl ⟨by rfl, by intro w hSw; clear hHeld hSw; go_simp; (try rfl)⟩) (by assumption) ?_
    simp only [Act.put, List.setIfInBounds_toArray, List.set_cons_zero, List.set_cons_succ, List.getElem_toArray, List.getElem_cons_succ, List.getElem_cons_zero]
    refine wpAnyH_take (i := 1) (v := .agg kc.cells) rfl (by kernel_rfl) (by kernel_rfl) (by kernel_rfl) (fun _ _ _ h => h) (yields_sub (by rfl) 27 _ rfl (w8.heap.size) 0 (by rfl) kc.cells _ (fun w' h' => range_row h'.1) Try.underlying27 rfl HIkc.out) (by assumption) ?_
    simp only [Act.put, List.setIfInBounds_toArray, List.set_cons_zero, List.set_cons_succ, List.getElem_toArray, List.getElem_cons_succ, List.getElem_cons_zero]
    refine wpAnyH_take (i := 2) (v := .slice (some ⟨yb, yo, none⟩) 1 c7) rfl (by kernel_rfl) (by kernel_rfl) (by kernel_rfl) (fun _ _ _ h => h) (Or.inl ⟨by rfl, by intro w hSw; clear hHeld hSw; go_simp; (try rfl)⟩) (by assumption) ?_
    simp only [Act.put, List.setIfInBounds_toArray, List.set_cons_zero, List.set_cons_succ, List.getElem_toArray, List.getElem_cons_succ, List.getElem_cons_zero]
    refine wpAnyH_take (i := 3) (v := .pointer (some ⟨yb, yo, none⟩)) rfl (by kernel_rfl) (by kernel_rfl) (by kernel_rfl) (fun _ _ _ h => h) (Or.inl ⟨by rfl, by intro w hSw; clear hHeld hSw; go_simp; (try rfl)⟩) (by assumption) ?_
    simp only [Act.put, List.setIfInBounds_toArray, List.set_cons_zero, List.set_cons_succ, List.getElem_toArray, List.getElem_cons_succ, List.getElem_cons_zero]
    refine wpAnyH_take (i := 4) (v := ym) rfl (by kernel_rfl) (by kernel_rfl) (by kernel_rfl) (fun _ _ _ h => h) (Or.inl ⟨by rfl, by intro w hSw; have tq := hSw.2; clear hHeld hSw; go_simp⟩) (by assumption) ?_
    simp only [Act.put, List.setIfInBounds_toArray, List.set_cons_zero, List.set_cons_succ, List.getElem_toArray, List.getElem_cons_succ, List.getElem_cons_zero]
    refine wpAnyH_ready (rs := [5]) (by kernel_rfl) (by simp) ?_
    refine AllReadyH.cons (i := 5) (rs := []) rfl ?_ AllReadyH.nil
    intro Kq hKq
    simp only [List.getElem_toArray, List.getElem_cons_succ, List.getElem_cons_zero]
    rw [if_pos (by rfl)]
    refine wp_call_fn 20 #[.agg kc.cells, ym, .int .i64 10] (_) (by as_aux_lemma => kernel_rfl) (CI.out _ ym HYI.out) ?_
    rintro e w1 ⟨v3, rfl, hO, hb⟩
    refine ⟨.tuple #[.agg ke.cells, v3, .int .i64 0], rfl, ?_⟩
    have HBN := Lib.hid (show Below wc.heap.size wc w1 from (Below.refl _ _).drew.trans hb)
    refine hKq.out _ _ (⟨row_below HBN.out RCwc.out, below_kept HBN.out hym⟩) (fun hHeld2 => ?_)
    clear hKq Kq hHeld
    have hHeld := hHeld2
    clear hHeld2
    simp only [Act.put, List.setIfInBounds_toArray, List.set_cons_zero, List.set_cons_succ]
    refine wpAnyH_take (i := 6) (v := .tuple #[.agg ke.cells, v3, .int .i64 0]) rfl (by kernel_rfl) (by kernel_rfl) (by kernel_rfl) (fun _ _ _ h => h) (Or.inl ⟨by rfl, by intro w hSw; clear hHeld hSw; go_simp; (try rfl)⟩) (by assumption) ?_
    simp only [Act.put, List.setIfInBounds_toArray, List.set_cons_zero, List.set_cons_succ, List.getElem_toArray, List.getElem_cons_succ, List.getElem_cons_zero]
    refine wpAnyH_take (i := 7) (v := .agg ke.cells) rfl (by kernel_rfl) (by kernel_rfl) (by kernel_rfl) (fun _ _ _ h => h) (Or.inl ⟨by rfl, by intro w hSw; clear hHeld hSw; go_simp; (try rfl)⟩) (by assumption) ?_
    simp only [Act.put, List.setIfInBounds_toArray, List.set_cons_zero, List.set_cons_succ, List.getElem_toArray, List.getElem_cons_succ, List.getElem_cons_zero]
    refine wpAnyH_take (i := 8) (v := v3) rfl (by kernel_rfl) (by kernel_rfl) (by kernel_rfl) (fun _ _ _ h => h) (Or.inl ⟨by rfl, by intro w hSw; clear hHeld hSw; go_simp; (try rfl)⟩) (by assumption) ?_
    simp only [Act.put, List.setIfInBounds_toArray, List.set_cons_zero, List.set_cons_succ, List.getElem_toArray, List.getElem_cons_succ, List.getElem_cons_zero]
    refine wpAnyH_take (i := 9) (v := .int .i64 0) rfl (by kernel_rfl) (by kernel_rfl) (by kernel_rfl) (fun _ _ _ h => h) (Or.inl ⟨by rfl, by intro w hSw; clear hHeld hSw; go_simp; (try rfl)⟩) (by assumption) ?_
    simp only [Act.put, List.setIfInBounds_toArray, List.set_cons_zero, List.set_cons_succ, List.getElem_toArray, List.getElem_cons_succ, List.getElem_cons_zero]
    refine wpAnyH_take (i := 10) (v := .pointer (some ⟨w2.heap.size, 17, none⟩)) rfl (by kernel_rfl) (by kernel_rfl) (by kernel_rfl) (fun _ _ _ h => h) (Or.inl ⟨by rfl, by intro w hSw; clear hHeld hSw; go_simp; (try rfl)⟩) (by assumption) ?_
    simp only [Act.put, List.setIfInBounds_toArray, List.set_cons_zero, List.set_cons_succ, List.getElem_toArray, List.getElem_cons_succ, List.getElem_cons_zero]
    have HRN := Lib.hid (row_below HBN.out RSwc.out)
    have HTN := Lib.hid (show w1.there (w2.heap.size) 17 ke.cells.size from there_of_row HRN.out 17 17 (by rw [pair_size]; decide))
    have lyb : w2.heap.size < yb := Nat.lt_of_lt_of_le lRSw9 hyb
    have hKN := kept_setCells (ok := fun b => w2.heap.size < b) (w := w1) (b := w2.heap.size) (o := 17) (vs := ke.cells.toList) (Nat.lt_irrefl _)
    refine wpAnyH_ready (rs := [11]) (by kernel_rfl) (by simp) ?_
    refine AllReadyH.cons (i := 11) (rs := []) rfl ?_ AllReadyH.nil
    intro Kq hKq
    simp only [List.getElem_toArray, List.getElem_cons_succ, List.getElem_cons_zero]
    rw [if_pos (by rfl)]
    refine wp_store_mid 27 (.tmp 139) (.tmp 136) rfl (w2.heap.size) 17 ke.cells (by as_aux_lemma => kernel_rfl) (by as_aux_lemma => kernel_rfl) HTN.out HIke.out (one_cells _) ?_
    refine hKq.out _ _ (⟨(heap_setCells_far _ _ _ _ _ (Nat.ne_of_gt nRS_RC)).trans (row_below HBN.out RCwc.out), kept_cell hKN lyb (below_kept HBN.out hym)⟩) (fun hHeld2 => ?_)
    clear hKq Kq hHeld
    have hHeld := hHeld2
    clear hHeld2
    simp only [Act.put, List.setIfInBounds_toArray, List.set_cons_zero, List.set_cons_succ]
    refine wpAnyH_take (i := 12) (v := .int .i64 0) rfl (by kernel_rfl) (by kernel_rfl) (by kernel_rfl) (fun _ _ _ h => h) (Or.inl ⟨by rfl, by intro w hSw; clear hHeld hSw; go_simp; (try rfl)⟩) (by assumption) ?_
    simp only [Act.put, List.setIfInBounds_toArray, List.set_cons_zero, List.set_cons_succ, List.getElem_toArray, List.getElem_cons_succ, List.getElem_cons_zero]
    clear hHeld
    refine wpAnyH_done (by kernel_rfl) ?_ _
    clear hb hO hym HYI hKN HTN
    have hb := HBN.out
    have RSw1 := Lib.hid (show w1.heap[w2.heap.size]? = some (.cells (pairCells pa pb) 28) from row_below hb RSwc.out)
    have lRSw1 : w2.heap.size < w1.heap.size := row_lt RSw1.out
    have RTw1 := Lib.hid (show w1.heap[T]? = some (.cells kd.cells 27) from row_below hb RT.out)
    have lRTw1 : T < w1.heap.size := row_lt RTw1.out
    have HBw1 := Lib.hid (below_step HBwc.out hb)
    clear hb
    have RSwd := Lib.hid (show (w1.setCells (w2.heap.size) 17 ke.cells.toList).heap[w2.heap.size]? = some (.cells (pairCells pa ke) 28) from (heap_setCells_same _ _ _ _ _ _ RSw1.out).trans (by rw [put_pair1]))
    have lRSwd : w2.heap.size < (w1.setCells (w2.heap.size) 17 ke.cells.toList).heap.size := row_lt RSwd.out
    have RTwd := Lib.hid (show (w1.setCells (w2.heap.size) 17 ke.cells.toList).heap[T]? = some (.cells kd.cells 27) from (heap_setCells_far _ _ _ _ _ (Nat.ne_of_gt nRS_RT)).trans RTw1.out)
    have lRTwd : T < (w1.setCells (w2.heap.size) 17 ke.cells.toList).heap.size := row_lt RTwd.out
    have HBwd := Lib.hid (below_setCells' gRS ke.cells.toList 17 _ _ HBw1.out)
    generalize hgen : w1.setCells (w2.heap.size) 17 ke.cells.toList = wd at *
    clear hgen
    go_wp2_with ((with_reducible refine wpList_load_row rfl 27 (.tmp 24) rfl (T) rfl 27 (kd.cells) (0, 0) _ RTwd.out Try.underlying27 rfl HIkd.out ?_))
    refine (CK.out _).mono ?_
    rintro e wf ⟨v1, rfl, hO, hb⟩
    have RSwf := Lib.hid (show wf.heap[w2.heap.size]? = some (.cells (pairCells pa ke) 28) from row_below hb RSwd.out)
    have lRSwf : w2.heap.size < wf.heap.size := row_lt RSwf.out
    have RTwf := Lib.hid (show wf.heap[T]? = some (.cells kd.cells 27) from row_below hb RTwd.out)
    have lRTwf : T < wf.heap.size := row_lt RTwf.out
    have HBwf := Lib.hid (below_step HBwd.out hb)
    clear hb
    clear hO
    have HTHwf := Lib.hid (show wf.there (w2.heap.size) 0 kf.cells.size from there_of_row RSwf.out 0 17 (by rw [pair_size]; decide))
    go_upto_region 24 with ((with_reducible refine wpList_store_midTo rfl rfl 27 (.tmp 148) (.tmp 145) rfl (w2.heap.size) 0 kf.cells ?_ ?_ HTHwf.out HIkf.out (one_cells _) ?_); (as_aux_lemma => kernel_rfl); (as_aux_lemma => kernel_rfl))
    have RSwg := Lib.hid (show (wf.setCells (w2.heap.size) 0 kf.cells.toList).heap[w2.heap.size]? = some (.cells (pairCells kf ke) 28) from (heap_setCells_same _ _ _ _ _ _ RSwf.out).trans (by rw [put_pair0]))
    have lRSwg : w2.heap.size < (wf.setCells (w2.heap.size) 0 kf.cells.toList).heap.size := row_lt RSwg.out
    have HBwg := Lib.hid (below_setCells' gRS kf.cells.toList 0 _ _ HBwf.out)
    generalize hgen : wf.setCells (w2.heap.size) 0 kf.cells.toList = wg at *
    clear hgen
    have z12 : wg.cell? ⟨w2.heap.size, 12, none⟩ = some (.int .u8 0) := by rw [cell_of_row _ _ _ _ _ _ RSwg.out, pc12, X0.out]
    have z13 : wg.cell? ⟨w2.heap.size, 13, none⟩ = some (.int .i64 (id % 65535 + 1)) := by rw [cell_of_row _ _ _ _ _ _ RSwg.out, pc13, X1.out]
    have z14 : wg.cell? ⟨w2.heap.size, 14, none⟩ = some (.int .i64 0) := by rw [cell_of_row _ _ _ _ _ _ RSwg.out, pc14, X2.out]
    have z29 : wg.cell? ⟨w2.heap.size, 29, none⟩ = some (.int .u8 0) := by rw [cell_of_row _ _ _ _ _ _ RSwg.out, pc29, Y0.out]
    have z30 : wg.cell? ⟨w2.heap.size, 30, none⟩ = some (.int .i64 (other % 65535 + 1)) := by rw [cell_of_row _ _ _ _ _ _ RSwg.out, pc30, Y1.out]
    have z31 : wg.cell? ⟨w2.heap.size, 31, none⟩ = some (.int .i64 0) := by rw [cell_of_row _ _ _ _ _ _ RSwg.out, pc31, Y2.out]
    go_wp2
    go_ret
    exact ⟨rfl, HBwg.out⟩
end Go.Proofs.Ytmighkgjbohieaa.peerSettles
