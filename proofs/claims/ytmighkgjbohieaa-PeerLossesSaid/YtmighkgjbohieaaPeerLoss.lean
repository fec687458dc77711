/-
  The walk of PeerLosses: both ends become Up although some messages are lost.
-/
import Derived.Test.YtmighkgjbohieaaPeerLossP
import Derived.Deep.LoopGhost
import Derived.Deep.DeepCutAuto
import Derived.Deep.CutBlock
set_option linter.unusedVariables false
set_option linter.unusedSimpArgs false
namespace Go.Proofs.Ytmighkgjbohieaa.peerLosses
open Go.ChangeShapes Go.WideShapes Go.ChangeAt Go.RowKit Go.Great

def BoolR (w : World) (e : Ending) (w' : World) : Prop := e = .returned (.bool true) ∧ Below w.heap.size w w'
theorem ends_in {id other : Int} (hi : 1 ≤ id ∧ id ≤ 65535) (ho : 1 ≤ other ∧ other ≤ 65535) (w : World) : Calls Try.prog 11 #[.int .i64 id, .int .i64 other] w fun e w' => e = .returned (.tuple #[.agg (pairCells (LA 0 id 0 0 0) (LB 0 other 0 0 0)), .bool true]) ∧ Below w.heap.size w w' := by
  have h := ends_any id other w
  rw [k0_is hi, k1_is ho, show (inB id && inB other) = true by rw [inB, inB, btw_iff.2 hi, btw_iff.2 ho]; rfl] at h
  exact h
theorem head_in {w : World} {v : Value} {m : List Int} (h : ListIn w v [m]) : ∃ b o cap mv, v = .slice (some ⟨b, o, none⟩) 1 cap ∧ 1 ≤ cap ∧ w.cell? ⟨b, o, none⟩ = some mv ∧ MsgIn w mv m := by
  obtain ⟨ao, cap, rfl, h1, h2, h3⟩ := h
  obtain ⟨b, o, rfl, hc⟩ := h3 (by simp)
  obtain ⟨_, x, hx, hm⟩ := hc 0 m rfl
  exact ⟨b, o, cap, x, rfl, h1, hx, hm⟩
theorem head_ok {ok : Nat → Prop} {w : World} {v : Value} {m : List Int} (h : ListOk ok w v [m]) : ∃ b o cap mv, v = .slice (some ⟨b, o, none⟩) 1 cap ∧ 1 ≤ cap ∧ ok b ∧ w.cell? ⟨b, o, none⟩ = some mv ∧ MsgOkIn ok w mv m := by
  obtain ⟨ao, cap, rfl, h1, h2, h3⟩ := h
  obtain ⟨b, o, rfl, hb, hc⟩ := h3 (by simp)
  obtain ⟨x, hx, hm⟩ := hc 0 m rfl
  exact ⟨b, o, cap, x, rfl, h1, hb, hx, hm⟩
theorem nil_ok {ok : Nat → Prop} {w : World} {v : Value} (h : ListOk ok w v []) : ∃ ao cap, v = .slice ao 0 cap := by
  obtain ⟨ao, cap, rfl, _⟩ := h
  exact ⟨ao, cap, rfl⟩
theorem form_in {w : World} {v : Value} {ms : List (List Int)} (h : ListIn w v ms) : ∃ ao cap, v = .slice ao ms.length cap := by
  obtain ⟨ao, cap, rfl, _⟩ := h
  exact ⟨ao, cap, rfl⟩
theorem wpList_runG {P : Program} {ops : Array Oper} {rest : List Oper} {op : Oper} {a : Act} {w : World} {Q : Exit → Act → World → Prop} (hw : Region.wanted op (yielded ops a.tmps) = true) (dst : Option Tmp) (hdst : op.dst = dst)
    (v : Value) (w' : World) (hrun : (execOp a.eval op).run P w = .ok (.value v) w') (h : wpList P ops Q rest (a.put dst v) w') : wpList P ops Q (op :: rest) a w :=
  wpList_step fun K hK => by
    subst hdst
    rw [if_pos hw]
    unfold Oper.wp
    rw [hrun, Oper.upon_value]
    exact hK _ _ h
theorem no_eq {n : Nat} (h : n ≠ 0) : ((n : Int) == 0) = false := by simpa using h
theorem len_no {X : List (List Int)} (h : X ≠ []) : ((X.length : Int) == 0) = false := no_eq (fun e => h (List.eq_nil_of_length_eq_zero e))
/-- What is known at each round's head. -/
def LossAt (w : World) (a0 b0 : Nat) (mine his : Int) (wr : World) (g i : Nat) (now : Int) (v14 v17 : Value) : Prop :=
  ∃ K L X Y, K.By ∧ L.By ∧ ListIn wr v14 X ∧ ListIn wr v17 Y ∧ (0 ≤ now ∧ now ≤ 40000 * (i : Int)) ∧ GoW mine his g i now K L X Y ∧ wr.heap[a0]? = some (.cells K.cells 27) ∧ wr.heap[b0]? = some (.cells L.cells 27) ∧ Below w.heap.size w wr
theorem time_i {now : Int} {i : Nat} (h : 0 ≤ now ∧ now ≤ 40000 * (i : Int)) : 0 ≤ now + 40000 ∧ now + 40000 ≤ 40000 * ((i + 1 : Nat) : Int) := by omega
set_option maxRecDepth 100000 in
set_option maxHeartbeats 8000000 in
theorem out_ids (id other mine his : Int) (hx : (inB id && inB other) = false) (hm : 0 ≤ mine ∧ mine ≤ 2) (hh : 0 ≤ his ∧ his ≤ 2) (w : World) : Calls Try.prog 6 #[.int .i64 id, .int .i64 other, .int .i64 mine, .int .i64 his] w (BoolR w) := by
  have HC := Lib.hid (ends_any id other)
  rw [hx] at HC
  obtain ⟨m1, m2⟩ := hm
  obtain ⟨h1, h2⟩ := hh
  have HIP := Lib.hid (pair_info (k0 id) (k1 other))
  go_enter Try.func6, Try.ntmps6
  go_wp2_with (fail)
  refine (alive_any _).mono ?_
  rintro e w1 ⟨rfl, hb⟩
  have HBw1 := Lib.hid (below_step (Below.refl w.heap.size w) hb)
  clear hb
  go_wp2_with (fail)
  refine (HC.out _).mono ?_
  rintro e w2 ⟨rfl, hb⟩
  have HBw2 := Lib.hid (below_step HBw1.out hb)
  clear hb
  go_wp2_with (first
    | (with_reducible refine wpList_runTo rfl (some 10) rfl (.pointer (some ⟨w2.heap.size, 0, none⟩)) (w2.alloc (.cells zp 28)) (by as_aux_lemma => kernel_rfl) ?_; simp only [Act.put, List.setIfInBounds_toArray, List.set_cons_succ, List.set_cons_zero])
    | ((with_reducible refine wpList_store_rowTo rfl 28 (.tmp 10) (.tmp 39) rfl rfl (w2.heap.size) (pairCells (k0 id) (k1 other)) ?_ ?_ 28 zp (heap_alloc_at rfl) HIP.out rfl (pair_one _ _) ?_); (as_aux_lemma => kernel_rfl); (as_aux_lemma => kernel_rfl); rw [setRow_allocAt rfl]))
  go_ret
  exact ⟨rfl, below_more HBw2.out _⟩
set_option maxRecDepth 100000 in
set_option maxHeartbeats 8000000 in
theorem out_m0 (id other mine his : Int) (hm : mine < 0) (w : World) : Calls Try.prog 6 #[.int .i64 id, .int .i64 other, .int .i64 mine, .int .i64 his] w (BoolR w) := by
  have HC := Lib.hid (ends_any id other)
  generalize (inB id && inB other) = bb at *
  have HIP := Lib.hid (pair_info (k0 id) (k1 other))
  go_enter Try.func6, Try.ntmps6
  go_wp2_with (fail)
  refine (alive_any _).mono ?_
  rintro e w1 ⟨rfl, hb⟩
  have HBw1 := Lib.hid (below_step (Below.refl w.heap.size w) hb)
  clear hb
  go_wp2_with (fail)
  refine (HC.out _).mono ?_
  rintro e w2 ⟨rfl, hb⟩
  have HBw2 := Lib.hid (below_step HBw1.out hb)
  clear hb
  go_wp2_with (first
    | (with_reducible refine wpList_runTo rfl (some 10) rfl (.pointer (some ⟨w2.heap.size, 0, none⟩)) (w2.alloc (.cells zp 28)) (by as_aux_lemma => kernel_rfl) ?_; simp only [Act.put, List.setIfInBounds_toArray, List.set_cons_succ, List.set_cons_zero])
    | ((with_reducible refine wpList_store_rowTo rfl 28 (.tmp 10) (.tmp 39) rfl rfl (w2.heap.size) (pairCells (k0 id) (k1 other)) ?_ ?_ 28 zp (heap_alloc_at rfl) HIP.out rfl (pair_one _ _) ?_); (as_aux_lemma => kernel_rfl); (as_aux_lemma => kernel_rfl); rw [setRow_allocAt rfl]))
  go_ret
  exact ⟨rfl, below_more HBw2.out _⟩
set_option maxRecDepth 100000 in
set_option maxHeartbeats 8000000 in
theorem out_m2 (id other mine his : Int) (hm0 : 0 ≤ mine) (hm : 2 < mine) (w : World) : Calls Try.prog 6 #[.int .i64 id, .int .i64 other, .int .i64 mine, .int .i64 his] w (BoolR w) := by
  have HC := Lib.hid (ends_any id other)
  generalize (inB id && inB other) = bb at *
  have HIP := Lib.hid (pair_info (k0 id) (k1 other))
  go_enter Try.func6, Try.ntmps6
  go_wp2_with (fail)
  refine (alive_any _).mono ?_
  rintro e w1 ⟨rfl, hb⟩
  have HBw1 := Lib.hid (below_step (Below.refl w.heap.size w) hb)
  clear hb
  go_wp2_with (fail)
  refine (HC.out _).mono ?_
  rintro e w2 ⟨rfl, hb⟩
  have HBw2 := Lib.hid (below_step HBw1.out hb)
  clear hb
  go_wp2_with (first
    | (with_reducible refine wpList_runTo rfl (some 10) rfl (.pointer (some ⟨w2.heap.size, 0, none⟩)) (w2.alloc (.cells zp 28)) (by as_aux_lemma => kernel_rfl) ?_; simp only [Act.put, List.setIfInBounds_toArray, List.set_cons_succ, List.set_cons_zero])
    | ((with_reducible refine wpList_store_rowTo rfl 28 (.tmp 10) (.tmp 39) rfl rfl (w2.heap.size) (pairCells (k0 id) (k1 other)) ?_ ?_ 28 zp (heap_alloc_at rfl) HIP.out rfl (pair_one _ _) ?_); (as_aux_lemma => kernel_rfl); (as_aux_lemma => kernel_rfl); rw [setRow_allocAt rfl]))
  go_ret
  exact ⟨rfl, below_more HBw2.out _⟩
set_option maxRecDepth 100000 in
set_option maxHeartbeats 8000000 in
theorem out_h0 (id other mine his : Int) (hm0 : 0 ≤ mine) (hm2 : mine ≤ 2) (hh : his < 0) (w : World) : Calls Try.prog 6 #[.int .i64 id, .int .i64 other, .int .i64 mine, .int .i64 his] w (BoolR w) := by
  have HC := Lib.hid (ends_any id other)
  generalize (inB id && inB other) = bb at *
  have HIP := Lib.hid (pair_info (k0 id) (k1 other))
  go_enter Try.func6, Try.ntmps6
  go_wp2_with (fail)
  refine (alive_any _).mono ?_
  rintro e w1 ⟨rfl, hb⟩
  have HBw1 := Lib.hid (below_step (Below.refl w.heap.size w) hb)
  clear hb
  go_wp2_with (fail)
  refine (HC.out _).mono ?_
  rintro e w2 ⟨rfl, hb⟩
  have HBw2 := Lib.hid (below_step HBw1.out hb)
  clear hb
  go_wp2_with (first
    | (with_reducible refine wpList_runTo rfl (some 10) rfl (.pointer (some ⟨w2.heap.size, 0, none⟩)) (w2.alloc (.cells zp 28)) (by as_aux_lemma => kernel_rfl) ?_; simp only [Act.put, List.setIfInBounds_toArray, List.set_cons_succ, List.set_cons_zero])
    | ((with_reducible refine wpList_store_rowTo rfl 28 (.tmp 10) (.tmp 39) rfl rfl (w2.heap.size) (pairCells (k0 id) (k1 other)) ?_ ?_ 28 zp (heap_alloc_at rfl) HIP.out rfl (pair_one _ _) ?_); (as_aux_lemma => kernel_rfl); (as_aux_lemma => kernel_rfl); rw [setRow_allocAt rfl]))
  go_ret
  exact ⟨rfl, below_more HBw2.out _⟩
set_option maxRecDepth 100000 in
set_option maxHeartbeats 8000000 in
theorem out_h2 (id other mine his : Int) (hm0 : 0 ≤ mine) (hm2 : mine ≤ 2) (hh0 : 0 ≤ his) (hh : 2 < his) (w : World) : Calls Try.prog 6 #[.int .i64 id, .int .i64 other, .int .i64 mine, .int .i64 his] w (BoolR w) := by
  have HC := Lib.hid (ends_any id other)
  generalize (inB id && inB other) = bb at *
  have HIP := Lib.hid (pair_info (k0 id) (k1 other))
  go_enter Try.func6, Try.ntmps6
  go_wp2_with (fail)
  refine (alive_any _).mono ?_
  rintro e w1 ⟨rfl, hb⟩
  have HBw1 := Lib.hid (below_step (Below.refl w.heap.size w) hb)
  clear hb
  go_wp2_with (fail)
  refine (HC.out _).mono ?_
  rintro e w2 ⟨rfl, hb⟩
  have HBw2 := Lib.hid (below_step HBw1.out hb)
  clear hb
  go_wp2_with (first
    | (with_reducible refine wpList_runTo rfl (some 10) rfl (.pointer (some ⟨w2.heap.size, 0, none⟩)) (w2.alloc (.cells zp 28)) (by as_aux_lemma => kernel_rfl) ?_; simp only [Act.put, List.setIfInBounds_toArray, List.set_cons_succ, List.set_cons_zero])
    | ((with_reducible refine wpList_store_rowTo rfl 28 (.tmp 10) (.tmp 39) rfl rfl (w2.heap.size) (pairCells (k0 id) (k1 other)) ?_ ?_ 28 zp (heap_alloc_at rfl) HIP.out rfl (pair_one _ _) ?_); (as_aux_lemma => kernel_rfl); (as_aux_lemma => kernel_rfl); rw [setRow_allocAt rfl]))
  go_ret
  exact ⟨rfl, below_more HBw2.out _⟩
set_option maxRecDepth 100000 in
set_option maxHeartbeats 16000000 in
theorem in_ (id other mine his : Int) (hi : 1 ≤ id ∧ id ≤ 65535) (ho : 1 ≤ other ∧ other ≤ 65535) (hm : 0 ≤ mine ∧ mine ≤ 2) (hh : 0 ≤ his ∧ his ≤ 2) (w : World) : Calls Try.prog 6 #[.int .i64 id, .int .i64 other, .int .i64 mine, .int .i64 his] w (BoolR w) := by
  have HC := Lib.hid (ends_in hi ho)
  have HGO := Lib.hid (go_all hi ho hm hh)
  obtain ⟨m1, m2⟩ := hm
  obtain ⟨h1, h2⟩ := hh
  have CA := Lib.hid (fun W => ret_of (a_start (now := 0) hi (by decide) (by decide)) (start_any (LA 0 id 0 0 0) LA_by 0 W))
  have CB := Lib.hid (fun W => ret_of (b_start (now := 0) ho (by decide) (by decide)) (start_any (LB 0 other 0 0 0) LB_by 0 W))
  have HKB := Lib.hid (LA_by : (LA 1 id 0 1 (0 + 40000)).By)
  have HLB := Lib.hid (LB_by : (LB 1 other 0 1 (0 + 40000)).By)
  have F1 := Lib.hid (one_ok (msgOf_ok 1 id 0 (by decide)))
  have F2 := Lib.hid (one_ok (msgOf_ok 1 other 0 (by decide)))
  generalize LA 0 id 0 0 0 = A0 at *
  generalize LB 0 other 0 0 0 = B0 at *
  generalize LA 1 id 0 1 (0 + 40000) = A1 at *
  generalize LB 1 other 0 1 (0 + 40000) = B1 at *
  generalize msgOf 1 id 0 = mA at *
  generalize msgOf 1 other 0 = mB at *
  have HIP := Lib.hid (pair_info A0 B0)
  have HI0 := Lib.hid (link_info2 A0)
  have HI1 := Lib.hid (link_info2 B0)
  have HIA := Lib.hid (link_info2 A1)
  have HIB := Lib.hid (link_info2 B1)
  go_enter Try.func6, Try.ntmps6
  go_wp2_with (fail)
  refine (alive_any _).mono ?_
  rintro e w1 ⟨rfl, hb⟩
  have HBw1 := Lib.hid (below_step (Below.refl w.heap.size w) hb)
  clear hb
  go_wp2_with (fail)
  refine (HC.out _).mono ?_
  rintro e w2 ⟨rfl, hb⟩
  have HBw2 := Lib.hid (below_step HBw1.out hb)
  clear hb
  have gP : w.heap.size ≤ w2.heap.size := by have hh := Below.size HBw2.out; exact hh
  go_wp2_with (first
    | (with_reducible refine wpList_runTo rfl (some 10) rfl (.pointer (some ⟨w2.heap.size, 0, none⟩)) (w2.alloc (.cells zp 28)) (by as_aux_lemma => kernel_rfl) ?_; simp only [Act.put, List.setIfInBounds_toArray, List.set_cons_succ, List.set_cons_zero])
    | ((with_reducible refine wpList_store_rowTo rfl 28 (.tmp 10) (.tmp 39) rfl rfl (w2.heap.size) (pairCells A0 B0) ?_ ?_ 28 zp (heap_alloc_at rfl) HIP.out rfl (pair_one _ _) ?_); (as_aux_lemma => kernel_rfl); (as_aux_lemma => kernel_rfl); rw [setRow_allocAt rfl])
    | ((with_reducible refine wpList_load_sub rfl 27 (.tmp 65) rfl (w2.heap.size) 0 rfl A0.cells _ (range_pair0 (heap_alloc_at rfl)) Try.underlying27 rfl HI0.out ?_)))
  refine (CA.out _).mono ?_
  rintro e w3 ⟨v3, rfl, hO, hb⟩
  have Pw3 := Lib.hid (show w3.heap[w2.heap.size]? = some (.cells (pairCells A0 B0) 28) from row_below hb (heap_alloc_at rfl))
  have lPw3 : w2.heap.size < w3.heap.size := row_lt Pw3.out
  have HBw3 := Lib.hid (below_step (below_more HBw2.out (.cells (pairCells A0 B0) 28)) hb)
  clear hb
  have mLX_P : w2.heap.size < w2.heap.size + 1 := Nat.lt_succ_self _
  have hqLX : ListOk (fun b => w2.heap.size + 1 ≤ b) w3 v3 [mA] := (hO.listOk F1.out (Nat.le_trans (show _ ≤ 2 by first | (show 1 ≤ 2; decide) | (show 0 ≤ 2; decide) | (show 2 ≤ 2; decide)) (by unfold maxLen; decide))).mono (fun b q => Nat.le_trans (by first | exact Nat.le_refl _ | (simp only [World.size_alloc, size_setRow]; exact Nat.le_refl _)) q)
  obtain ⟨aoLX, cLX, rfl, hq1LX, hq2LX, hq3LX⟩ := hqLX
  have LXw3 := Lib.hid (show ListOk (fun b => w2.heap.size + 1 ≤ b) w3 (.slice aoLX 1 cLX) [mA] from ⟨aoLX, cLX, rfl, hq1LX, hq2LX, hq3LX⟩)
  clear hO hq1LX hq2LX hq3LX
  have nP_A : w2.heap.size < w3.heap.size := lPw3
  have gA : w.heap.size ≤ w3.heap.size := by have hh := Below.size HBw3.out; exact hh
  go_wp2_with (first
    | ((with_reducible refine wpList_store_rowTo rfl 27 (.tmp 13) (.tmp 69) rfl rfl (w3.heap.size) (A1.cells) ?_ ?_ 27 #[.int .u8 0, .int .u8 0, .int .u8 0, .int .u8 0, .int .u8 0, .int .u8 0, .int .u8 0, .int .u8 0, .int .u8 0, .int .u8 0, .int .u8 0, .int .u8 0, .int .u8 0, .int .i64 0, .int .i64 0, .int .i64 0, .int .i64 0] (heap_alloc_at rfl) HIA.out rfl (one_cells _) ?_); (as_aux_lemma => kernel_rfl); (as_aux_lemma => kernel_rfl); rw [setRow_allocAt rfl])
    | ((with_reducible refine wpList_load_sub rfl 27 (.tmp 73) rfl (w2.heap.size) 17 rfl B0.cells _ (range_pair1 (row_alloc Pw3.out)) Try.underlying27 rfl HI1.out ?_)))
  refine (CB.out _).mono ?_
  rintro e w4 ⟨v4, rfl, hO, hb⟩
  have Pw4 := Lib.hid (show w4.heap[w2.heap.size]? = some (.cells (pairCells A0 B0) 28) from row_below hb (row_alloc Pw3.out))
  have lPw4 : w2.heap.size < w4.heap.size := row_lt Pw4.out
  have Aw4 := Lib.hid (show w4.heap[w3.heap.size]? = some (.cells A1.cells 27) from row_below hb (heap_alloc_at rfl))
  have lAw4 : w3.heap.size < w4.heap.size := row_lt Aw4.out
  have LXw4 := Lib.hid (show ListOk (fun b => w2.heap.size + 1 ≤ b) w4 (.slice aoLX 1 cLX) [mA] from ListOk.keep (ListOk.keep LXw3.out (kept_below ((Below.refl _ _).alloc (Nat.le_refl _) _))) (kept_below hb))
  have HBw4 := Lib.hid (below_step (below_more HBw3.out (.cells A1.cells 27)) hb)
  clear hb
  have mLY_P : w2.heap.size < w3.heap.size + 1 := Nat.lt_succ_of_lt (lPw3)
  have mLY_A : w3.heap.size < w3.heap.size + 1 := Nat.lt_succ_self _
  have hqLY : ListOk (fun b => w3.heap.size + 1 ≤ b) w4 v4 [mB] := (hO.listOk F2.out (Nat.le_trans (show _ ≤ 2 by first | (show 1 ≤ 2; decide) | (show 0 ≤ 2; decide) | (show 2 ≤ 2; decide)) (by unfold maxLen; decide))).mono (fun b q => Nat.le_trans (by first | exact Nat.le_refl _ | (simp only [World.size_alloc, size_setRow]; exact Nat.le_refl _)) q)
  obtain ⟨aoLY, cLY, rfl, hq1LY, hq2LY, hq3LY⟩ := hqLY
  have LYw4 := Lib.hid (show ListOk (fun b => w3.heap.size + 1 ≤ b) w4 (.slice aoLY 1 cLY) [mB] from ⟨aoLY, cLY, rfl, hq1LY, hq2LY, hq3LY⟩)
  clear hO hq1LY hq2LY hq3LY
  have nP_B : w2.heap.size < w4.heap.size := lPw4
  have nA_B : w3.heap.size < w4.heap.size := lAw4
  have gB : w.heap.size ≤ w4.heap.size := by have hh := Below.size HBw4.out; exact hh
  go_upto_region 8 with ((with_reducible refine wpList_store_rowTo rfl 27 (.tmp 16) (.tmp 77) rfl rfl (w4.heap.size) (B1.cells) ?_ ?_ 27 #[.int .u8 0, .int .u8 0, .int .u8 0, .int .u8 0, .int .u8 0, .int .u8 0, .int .u8 0, .int .u8 0, .int .u8 0, .int .u8 0, .int .u8 0, .int .u8 0, .int .u8 0, .int .i64 0, .int .i64 0, .int .i64 0, .int .i64 0] (heap_alloc_at rfl) HIB.out rfl (one_cells _) ?_); (as_aux_lemma => kernel_rfl); (as_aux_lemma => kernel_rfl); rw [setRow_allocAt rfl])
  obtain ⟨wl, hwq⟩ : ∃ wq, wq = (w4.alloc (.cells B1.cells 27)) := ⟨_, rfl⟩
  rw [← hwq]
  have hb : Below ((w4.alloc (.cells B1.cells 27))).heap.size (w4.alloc (.cells B1.cells 27)) wl := by rw [hwq]; exact Below.refl _ _
  clear hwq
  have Pwl := Lib.hid (show wl.heap[w2.heap.size]? = some (.cells (pairCells A0 B0) 28) from row_below hb (row_alloc Pw4.out))
  have lPwl : w2.heap.size < wl.heap.size := row_lt Pwl.out
  have Awl := Lib.hid (show wl.heap[w3.heap.size]? = some (.cells A1.cells 27) from row_below hb (row_alloc Aw4.out))
  have lAwl : w3.heap.size < wl.heap.size := row_lt Awl.out
  have Bwl := Lib.hid (show wl.heap[w4.heap.size]? = some (.cells B1.cells 27) from row_below hb (heap_alloc_at rfl))
  have lBwl : w4.heap.size < wl.heap.size := row_lt Bwl.out
  have LXwl := Lib.hid (show ListOk (fun b => w2.heap.size + 1 ≤ b) wl (.slice aoLX 1 cLX) [mA] from ListOk.keep (ListOk.keep LXw4.out (kept_below ((Below.refl _ _).alloc (Nat.le_refl _) _))) (kept_below hb))
  have LYwl := Lib.hid (show ListOk (fun b => w3.heap.size + 1 ≤ b) wl (.slice aoLY 1 cLY) [mB] from ListOk.keep (ListOk.keep LYw4.out (kept_below ((Below.refl _ _).alloc (Nat.le_refl _) _))) (kept_below hb))
  have HBwl := Lib.hid (below_step (below_more HBw4.out (.cells B1.cells 27)) hb)
  clear hb
  have HLX := Lib.hid LXwl.out.listIn
  have HLY := Lib.hid LYwl.out.listIn
  have RA := Lib.hid (Awl.out)
  have RB := Lib.hid (Bwl.out)
  have gA0 : w.heap.size ≤ w3.heap.size := gA
  have gB0 : w.heap.size ≤ w4.heap.size := gB
  have nAB : w3.heap.size < w4.heap.size := nA_B
  have lA0 : w3.heap.size < wl.heap.size := row_lt RA.out
  have lB0 : w4.heap.size < wl.heap.size := row_lt RB.out
  clear gP lPw3 mLX_P nP_A gA lPw4 lAw4 mLY_P mLY_A nP_B nA_B gB lPwl lAwl lBwl
  obtain ⟨a0, ea0⟩ : ∃ q, q = w3.heap.size := ⟨_, rfl⟩
  obtain ⟨b0, eb0⟩ : ∃ q, q = w4.heap.size := ⟨_, rfl⟩
  rw [← ea0, ← eb0] at nAB
  rw [← ea0] at RA gA0 lA0
  rw [← eb0] at RB gB0 lB0
  rw [← ea0, ← eb0]
  clear ea0 eb0
  have HST := Lib.hid (show LossAt w a0 b0 mine his wl 3 0 0 _ _ from ⟨A1, B1, _, _, HKB.out, HLB.out, HLX.out, HLY.out, by decide, HGO.out, RA.out, RB.out, HBwl.out⟩)
  go_wp2_with fail
  go_loopg [12, 14, 15, 17, 18, 19] 3 (fun g t12 t14 t15 t17 t18 t19 wr => ∃ (i : Nat) (now : Int), i + g = 3 ∧ t19 = .int .i64 i ∧ t12 = .int .i64 now ∧ t15 = .int .i64 0 ∧ t18 = .int .i64 0 ∧ LossAt w a0 b0 mine his wr g i now t14 t17)
  case atStart => exact ⟨0, 0, rfl, rfl, rfl, rfl, rfl, HST.out⟩
  case round =>
    clear HST HGO HKB HLB HLX HLY RA RB HIP HI0 HI1 HIA HIB F1 F2 CA CB HC hi ho
    obtain ⟨i, now, hg, rfl, rfl, rfl, rfl, hp⟩ := hrel
    obtain ⟨K, L, X, Y, hK, hL, hlx, hly, hnow, hgo, hra, hrb, hbel⟩ := hp
    obtain ⟨f, rfl⟩ : ∃ f, gk = f + 1 := by
      cases gk with
      | zero => exact hgo.elim
      | succ f => exact ⟨f, rfl⟩
    · obtain ⟨K1, L1, K2, L2, hd1, he1, hd2, he2, hend⟩ := hgo
      obtain ⟨aoX, cX, eX⟩ := form_in hlx
      obtain ⟨aoY, cY, eY⟩ := form_in hly
      subst eX
      subst eY
      have HK := Lib.hid hK
      have HL := Lib.hid hL
      have LX := Lib.hid hlx
      have LY := Lib.hid hly
      have RA := Lib.hid hra
      have RB := Lib.hid hrb
      have HBL := Lib.hid hbel
      have D1 := Lib.hid hd1
      have E1 := Lib.hid he1
      have D2 := Lib.hid hd2
      have E2 := Lib.hid he2
      have EN := Lib.hid hend
      clear hK hL hlx hly hra hrb hbel hd1 he1 hd2 he2 hend
      have hi3 : (i : Int) < 3 := by omega
      have hi0 : (0 : Int) ≤ (i : Int) := by omega
      have HNOW := Lib.hid hnow
      have hn0 : 0 ≤ now := hnow.1
      have hn1 : now ≤ 1000000000 := by omega
      clear hnow
      have HIK := Lib.hid (link_info2 K)
      have HIL := Lib.hid (link_info2 L)
      go_upto_region 13 with fail
      go_cut [107] (fun t107 wx => t107 = .bool false ∧ wr = wx)
      case first =>
        as_aux_lemma =>
          have hcm : ((i : Int) == mine) = true ∧ ((X.length : Int) == 0) = false ∨ ((i : Int) == mine) = false := by
            by_cases h : (i : Int) = mine
            · obtain ⟨m0, m1, rfl, _⟩ := D1.out h; exact .inl ⟨by simpa using h, rfl⟩
            · exact .inr (by simpa using h)
          have hch : ((i : Int) == his) = true ∧ ((Y.length : Int) == 0) = false ∨ ((i : Int) == his) = false := by
            by_cases h : (i : Int) = his
            · obtain ⟨m0, m1, rfl, _⟩ := D2.out h; exact .inl ⟨by simpa using h, rfl⟩
            · exact .inr (by simpa using h)
          rcases hcm with ⟨c1, c2⟩ | c1 <;> rcases hch with ⟨c3, c4⟩ | c3
          all_goals
            go_wp2_with fail
            go_meet
            case rel => exact ⟨rfl, rfl⟩
      case rest =>
        obtain ⟨rfl, hwe⟩ := hcut
        subst hwe
        go_upto_region 15 with fail
        go_cut [20, 21] (fun t20 t21 wx => ∃ T1 T2, t20 = .pointer (some ⟨T1, 0, none⟩) ∧ t21 = .pointer (some ⟨T2, 0, none⟩) ∧ T1 ≠ T2 ∧ wr.heap.size ≤ T1 ∧ wr.heap.size ≤ T2 ∧ wx.heap[T1]? = some (.cells K.cells 27) ∧ wx.heap[T2]? = some (.cells L.cells 27) ∧ Below wr.heap.size wr wx)
        case first =>
          as_aux_lemma =>
            refine wp_region_held_drew (S := fun w' => Below wr.heap.size wr w') (by kernel_rfl) ((Below.refl _ _).drew) (fun hHeld => ?_)
            refine wpAnyH_take (i := 0) (v := .agg K.cells) rfl (by kernel_rfl) (by kernel_rfl) (by kernel_rfl) (fun _ _ _ h => h) (yields_sub (by rfl) 27 _ rfl (a0) 0 (by rfl) K.cells _ (fun w' h' => range_row (row_below h' RA.out)) Try.underlying27 rfl HIK.out) (by assumption) ?_
            simp only [Act.put, List.setIfInBounds_toArray, List.set_cons_zero, List.set_cons_succ, List.getElem_toArray, List.getElem_cons_succ, List.getElem_cons_zero]
            refine wpAnyH_take (i := 1) (v := .agg L.cells) rfl (by kernel_rfl) (by kernel_rfl) (by kernel_rfl) (fun _ _ _ h => h) (yields_sub (by rfl) 27 _ rfl (b0) 0 (by rfl) L.cells _ (fun w' h' => range_row (row_below h' RB.out)) Try.underlying27 rfl HIL.out) (by assumption) ?_
            simp only [Act.put, List.setIfInBounds_toArray, List.set_cons_zero, List.set_cons_succ, List.getElem_toArray, List.getElem_cons_succ, List.getElem_cons_zero]
            refine wpAnyH_ready (rs := [2, 3]) (by kernel_rfl) (by simp) ?_
            refine AllReadyH.cons (i := 2) (rs := [3]) rfl ?_ (AllReadyH.cons (i := 3) (rs := []) rfl ?_ AllReadyH.nil)
            · intro Kq hKq
              simp only [List.getElem_toArray, List.getElem_cons_succ, List.getElem_cons_zero]
              rw [if_pos (by rfl)]
              refine wp_op_value (.pointer (some ⟨wr.heap.size, 0, none⟩)) (wr.drew.alloc (.cells #[.int .u8 0, .int .u8 0, .int .u8 0, .int .u8 0, .int .u8 0, .int .u8 0, .int .u8 0, .int .u8 0, .int .u8 0, .int .u8 0, .int .u8 0, .int .u8 0, .int .u8 0, .int .i64 0, .int .i64 0, .int .i64 0, .int .i64 0] 27)) (by as_aux_lemma => kernel_rfl) ?_
              refine hKq.out _ _ (((Below.refl _ _).drew.alloc (Nat.le_refl _) _)) (fun hHeld2 => ?_)
              clear hKq Kq hHeld
              have hHeld := hHeld2
              clear hHeld2
              simp only [Act.put, List.setIfInBounds_toArray, List.set_cons_zero, List.set_cons_succ]
              refine wpAnyH_ready (rs := [3]) (by kernel_rfl) (by simp) ?_
              refine AllReadyH.cons (i := 3) (rs := []) rfl ?_ AllReadyH.nil
              intro Kq hKq
              simp only [List.getElem_toArray, List.getElem_cons_succ, List.getElem_cons_zero]
              rw [if_pos (by rfl)]
              have hs1 : (wr.drew.alloc (.cells #[.int .u8 0, .int .u8 0, .int .u8 0, .int .u8 0, .int .u8 0, .int .u8 0, .int .u8 0, .int .u8 0, .int .u8 0, .int .u8 0, .int .u8 0, .int .u8 0, .int .u8 0, .int .i64 0, .int .i64 0, .int .i64 0, .int .i64 0] 27)).heap.size = wr.heap.size + 1 := by simp only [World.size_alloc, drew_heap]
              refine wp_op_value (.pointer (some ⟨(wr.drew.alloc (.cells #[.int .u8 0, .int .u8 0, .int .u8 0, .int .u8 0, .int .u8 0, .int .u8 0, .int .u8 0, .int .u8 0, .int .u8 0, .int .u8 0, .int .u8 0, .int .u8 0, .int .u8 0, .int .i64 0, .int .i64 0, .int .i64 0, .int .i64 0] 27)).heap.size, 0, none⟩)) ((wr.drew.alloc (.cells #[.int .u8 0, .int .u8 0, .int .u8 0, .int .u8 0, .int .u8 0, .int .u8 0, .int .u8 0, .int .u8 0, .int .u8 0, .int .u8 0, .int .u8 0, .int .u8 0, .int .u8 0, .int .i64 0, .int .i64 0, .int .i64 0, .int .i64 0] 27)).alloc (.cells #[.int .u8 0, .int .u8 0, .int .u8 0, .int .u8 0, .int .u8 0, .int .u8 0, .int .u8 0, .int .u8 0, .int .u8 0, .int .u8 0, .int .u8 0, .int .u8 0, .int .u8 0, .int .i64 0, .int .i64 0, .int .i64 0, .int .i64 0] 27)) (by as_aux_lemma => kernel_rfl) ?_
              refine hKq.out _ _ ((hHeld.alloc hHeld.size _)) (fun hHeld2 => ?_)
              clear hKq Kq hHeld
              have hHeld := hHeld2
              clear hHeld2
              simp only [Act.put, List.setIfInBounds_toArray, List.set_cons_zero, List.set_cons_succ]
              rw [hs1]
              have r0 : ((wr.drew.alloc (.cells #[.int .u8 0, .int .u8 0, .int .u8 0, .int .u8 0, .int .u8 0, .int .u8 0, .int .u8 0, .int .u8 0, .int .u8 0, .int .u8 0, .int .u8 0, .int .u8 0, .int .u8 0, .int .i64 0, .int .i64 0, .int .i64 0, .int .i64 0] 27)).alloc (.cells #[.int .u8 0, .int .u8 0, .int .u8 0, .int .u8 0, .int .u8 0, .int .u8 0, .int .u8 0, .int .u8 0, .int .u8 0, .int .u8 0, .int .u8 0, .int .u8 0, .int .u8 0, .int .i64 0, .int .i64 0, .int .i64 0, .int .i64 0] 27)).heap[wr.heap.size]? = some (.cells #[.int .u8 0, .int .u8 0, .int .u8 0, .int .u8 0, .int .u8 0, .int .u8 0, .int .u8 0, .int .u8 0, .int .u8 0, .int .u8 0, .int .u8 0, .int .u8 0, .int .u8 0, .int .i64 0, .int .i64 0, .int .i64 0, .int .i64 0] 27) := row_alloc (heap_alloc_new wr.drew _)
              have r1 : ((wr.drew.alloc (.cells #[.int .u8 0, .int .u8 0, .int .u8 0, .int .u8 0, .int .u8 0, .int .u8 0, .int .u8 0, .int .u8 0, .int .u8 0, .int .u8 0, .int .u8 0, .int .u8 0, .int .u8 0, .int .i64 0, .int .i64 0, .int .i64 0, .int .i64 0] 27)).alloc (.cells #[.int .u8 0, .int .u8 0, .int .u8 0, .int .u8 0, .int .u8 0, .int .u8 0, .int .u8 0, .int .u8 0, .int .u8 0, .int .u8 0, .int .u8 0, .int .u8 0, .int .u8 0, .int .i64 0, .int .i64 0, .int .i64 0, .int .i64 0] 27)).heap[wr.heap.size + 1]? = some (.cells #[.int .u8 0, .int .u8 0, .int .u8 0, .int .u8 0, .int .u8 0, .int .u8 0, .int .u8 0, .int .u8 0, .int .u8 0, .int .u8 0, .int .u8 0, .int .u8 0, .int .u8 0, .int .i64 0, .int .i64 0, .int .i64 0, .int .i64 0] 27) := heap_alloc_at hs1
              have Hr0 := Lib.hid r0
              have Hr1 := Lib.hid r1
              have HBA := Lib.hid hHeld
              clear r0 r1
              generalize ((wr.drew.alloc (.cells #[.int .u8 0, .int .u8 0, .int .u8 0, .int .u8 0, .int .u8 0, .int .u8 0, .int .u8 0, .int .u8 0, .int .u8 0, .int .u8 0, .int .u8 0, .int .u8 0, .int .u8 0, .int .i64 0, .int .i64 0, .int .i64 0, .int .i64 0] 27)).alloc (.cells #[.int .u8 0, .int .u8 0, .int .u8 0, .int .u8 0, .int .u8 0, .int .u8 0, .int .u8 0, .int .u8 0, .int .u8 0, .int .u8 0, .int .u8 0, .int .u8 0, .int .u8 0, .int .i64 0, .int .i64 0, .int .i64 0, .int .i64 0] 27)) = Xw at *
              refine wpAnyH_ready (rs := [4]) (by kernel_rfl) (by simp) ?_
              refine AllReadyH.cons (i := 4) (rs := []) rfl ?_ AllReadyH.nil
              intro Kq hKq
              simp only [List.getElem_toArray, List.getElem_cons_succ, List.getElem_cons_zero]
              rw [if_pos (by rfl)]
              refine wp_store_row 27 (.tmp 20) (.tmp 108) (by rfl) wr.heap.size K.cells (by as_aux_lemma => kernel_rfl) (by as_aux_lemma => kernel_rfl) 27 #[.int .u8 0, .int .u8 0, .int .u8 0, .int .u8 0, .int .u8 0, .int .u8 0, .int .u8 0, .int .u8 0, .int .u8 0, .int .u8 0, .int .u8 0, .int .u8 0, .int .u8 0, .int .i64 0, .int .i64 0, .int .i64 0, .int .i64 0] Hr0.out HIK.out (by as_aux_lemma => kernel_rfl) (one_cells _) ?_
              have HBC := Lib.hid (below_setRow' HBA.out (Nat.le_refl _) K.cells)
              refine hKq.out _ _ (HBC.out) (fun hHeld2 => ?_)
              clear hKq Kq hHeld
              have hHeld := hHeld2
              clear hHeld2
              simp only [Act.put, List.setIfInBounds_toArray, List.set_cons_zero, List.set_cons_succ]
              have rb := (setRow_other Xw wr.heap.size (wr.heap.size + 1) K.cells (Nat.ne_of_gt (Nat.lt_succ_self _))).trans Hr1.out
              have ra := setRow_heap _ _ _ K.cells _ _ Hr0.out
              refine wpAnyH_ready (rs := [5]) (by kernel_rfl) (by simp) ?_
              refine AllReadyH.cons (i := 5) (rs := []) rfl ?_ AllReadyH.nil
              intro Kq hKq
              simp only [List.getElem_toArray, List.getElem_cons_succ, List.getElem_cons_zero]
              rw [if_pos (by rfl)]
              refine wp_store_row 27 (.tmp 21) (.tmp 109) (by rfl) (wr.heap.size + 1) L.cells (by as_aux_lemma => kernel_rfl) (by as_aux_lemma => kernel_rfl) 27 #[.int .u8 0, .int .u8 0, .int .u8 0, .int .u8 0, .int .u8 0, .int .u8 0, .int .u8 0, .int .u8 0, .int .u8 0, .int .u8 0, .int .u8 0, .int .u8 0, .int .u8 0, .int .i64 0, .int .i64 0, .int .i64 0, .int .i64 0] rb HIL.out (by as_aux_lemma => kernel_rfl) (one_cells _) ?_
              have HBD := Lib.hid (below_setRow' HBC.out (Nat.le_succ _) L.cells)
              refine hKq.out _ _ (HBD.out) (fun hHeld2 => ?_)
              clear hKq Kq hHeld
              have hHeld := hHeld2
              clear hHeld2
              simp only [Act.put, List.setIfInBounds_toArray, List.set_cons_zero, List.set_cons_succ]
              clear hHeld
              refine wpAnyH_done (by kernel_rfl) ?_ _
              go_wp2_with fail
              go_meet
              case rel => exact ⟨wr.heap.size, (wr.heap.size + 1), rfl, rfl, (Nat.ne_of_lt (Nat.lt_succ_self _)), (Nat.le_refl _), (Nat.le_succ _), (setRow_other _ _ _ _ (Nat.ne_of_lt (Nat.lt_succ_self _))).trans ra, setRow_heap _ _ _ _ _ _ rb, HBD.out⟩
            · intro Kq hKq
              simp only [List.getElem_toArray, List.getElem_cons_succ, List.getElem_cons_zero]
              rw [if_pos (by rfl)]
              refine wp_op_value (.pointer (some ⟨wr.heap.size, 0, none⟩)) (wr.drew.alloc (.cells #[.int .u8 0, .int .u8 0, .int .u8 0, .int .u8 0, .int .u8 0, .int .u8 0, .int .u8 0, .int .u8 0, .int .u8 0, .int .u8 0, .int .u8 0, .int .u8 0, .int .u8 0, .int .i64 0, .int .i64 0, .int .i64 0, .int .i64 0] 27)) (by as_aux_lemma => kernel_rfl) ?_
              refine hKq.out _ _ (((Below.refl _ _).drew.alloc (Nat.le_refl _) _)) (fun hHeld2 => ?_)
              clear hKq Kq hHeld
              have hHeld := hHeld2
              clear hHeld2
              simp only [Act.put, List.setIfInBounds_toArray, List.set_cons_zero, List.set_cons_succ]
              refine wpAnyH_ready (rs := [2]) (by kernel_rfl) (by simp) ?_
              refine AllReadyH.cons (i := 2) (rs := []) rfl ?_ AllReadyH.nil
              intro Kq hKq
              simp only [List.getElem_toArray, List.getElem_cons_succ, List.getElem_cons_zero]
              rw [if_pos (by rfl)]
              have hs1 : (wr.drew.alloc (.cells #[.int .u8 0, .int .u8 0, .int .u8 0, .int .u8 0, .int .u8 0, .int .u8 0, .int .u8 0, .int .u8 0, .int .u8 0, .int .u8 0, .int .u8 0, .int .u8 0, .int .u8 0, .int .i64 0, .int .i64 0, .int .i64 0, .int .i64 0] 27)).heap.size = wr.heap.size + 1 := by simp only [World.size_alloc, drew_heap]
              refine wp_op_value (.pointer (some ⟨(wr.drew.alloc (.cells #[.int .u8 0, .int .u8 0, .int .u8 0, .int .u8 0, .int .u8 0, .int .u8 0, .int .u8 0, .int .u8 0, .int .u8 0, .int .u8 0, .int .u8 0, .int .u8 0, .int .u8 0, .int .i64 0, .int .i64 0, .int .i64 0, .int .i64 0] 27)).heap.size, 0, none⟩)) ((wr.drew.alloc (.cells #[.int .u8 0, .int .u8 0, .int .u8 0, .int .u8 0, .int .u8 0, .int .u8 0, .int .u8 0, .int .u8 0, .int .u8 0, .int .u8 0, .int .u8 0, .int .u8 0, .int .u8 0, .int .i64 0, .int .i64 0, .int .i64 0, .int .i64 0] 27)).alloc (.cells #[.int .u8 0, .int .u8 0, .int .u8 0, .int .u8 0, .int .u8 0, .int .u8 0, .int .u8 0, .int .u8 0, .int .u8 0, .int .u8 0, .int .u8 0, .int .u8 0, .int .u8 0, .int .i64 0, .int .i64 0, .int .i64 0, .int .i64 0] 27)) (by as_aux_lemma => kernel_rfl) ?_
              refine hKq.out _ _ ((hHeld.alloc hHeld.size _)) (fun hHeld2 => ?_)
              clear hKq Kq hHeld
              have hHeld := hHeld2
              clear hHeld2
              simp only [Act.put, List.setIfInBounds_toArray, List.set_cons_zero, List.set_cons_succ]
              rw [hs1]
              have r0 : ((wr.drew.alloc (.cells #[.int .u8 0, .int .u8 0, .int .u8 0, .int .u8 0, .int .u8 0, .int .u8 0, .int .u8 0, .int .u8 0, .int .u8 0, .int .u8 0, .int .u8 0, .int .u8 0, .int .u8 0, .int .i64 0, .int .i64 0, .int .i64 0, .int .i64 0] 27)).alloc (.cells #[.int .u8 0, .int .u8 0, .int .u8 0, .int .u8 0, .int .u8 0, .int .u8 0, .int .u8 0, .int .u8 0, .int .u8 0, .int .u8 0, .int .u8 0, .int .u8 0, .int .u8 0, .int .i64 0, .int .i64 0, .int .i64 0, .int .i64 0] 27)).heap[wr.heap.size]? = some (.cells #[.int .u8 0, .int .u8 0, .int .u8 0, .int .u8 0, .int .u8 0, .int .u8 0, .int .u8 0, .int .u8 0, .int .u8 0, .int .u8 0, .int .u8 0, .int .u8 0, .int .u8 0, .int .i64 0, .int .i64 0, .int .i64 0, .int .i64 0] 27) := row_alloc (heap_alloc_new wr.drew _)
              have r1 : ((wr.drew.alloc (.cells #[.int .u8 0, .int .u8 0, .int .u8 0, .int .u8 0, .int .u8 0, .int .u8 0, .int .u8 0, .int .u8 0, .int .u8 0, .int .u8 0, .int .u8 0, .int .u8 0, .int .u8 0, .int .i64 0, .int .i64 0, .int .i64 0, .int .i64 0] 27)).alloc (.cells #[.int .u8 0, .int .u8 0, .int .u8 0, .int .u8 0, .int .u8 0, .int .u8 0, .int .u8 0, .int .u8 0, .int .u8 0, .int .u8 0, .int .u8 0, .int .u8 0, .int .u8 0, .int .i64 0, .int .i64 0, .int .i64 0, .int .i64 0] 27)).heap[wr.heap.size + 1]? = some (.cells #[.int .u8 0, .int .u8 0, .int .u8 0, .int .u8 0, .int .u8 0, .int .u8 0, .int .u8 0, .int .u8 0, .int .u8 0, .int .u8 0, .int .u8 0, .int .u8 0, .int .u8 0, .int .i64 0, .int .i64 0, .int .i64 0, .int .i64 0] 27) := heap_alloc_at hs1
              have Hr0 := Lib.hid r0
              have Hr1 := Lib.hid r1
              have HBA := Lib.hid hHeld
              clear r0 r1
              generalize ((wr.drew.alloc (.cells #[.int .u8 0, .int .u8 0, .int .u8 0, .int .u8 0, .int .u8 0, .int .u8 0, .int .u8 0, .int .u8 0, .int .u8 0, .int .u8 0, .int .u8 0, .int .u8 0, .int .u8 0, .int .i64 0, .int .i64 0, .int .i64 0, .int .i64 0] 27)).alloc (.cells #[.int .u8 0, .int .u8 0, .int .u8 0, .int .u8 0, .int .u8 0, .int .u8 0, .int .u8 0, .int .u8 0, .int .u8 0, .int .u8 0, .int .u8 0, .int .u8 0, .int .u8 0, .int .i64 0, .int .i64 0, .int .i64 0, .int .i64 0] 27)) = Xw at *
              refine wpAnyH_ready (rs := [4]) (by kernel_rfl) (by simp) ?_
              refine AllReadyH.cons (i := 4) (rs := []) rfl ?_ AllReadyH.nil
              intro Kq hKq
              simp only [List.getElem_toArray, List.getElem_cons_succ, List.getElem_cons_zero]
              rw [if_pos (by rfl)]
              refine wp_store_row 27 (.tmp 20) (.tmp 108) (by rfl) (wr.heap.size + 1) K.cells (by as_aux_lemma => kernel_rfl) (by as_aux_lemma => kernel_rfl) 27 #[.int .u8 0, .int .u8 0, .int .u8 0, .int .u8 0, .int .u8 0, .int .u8 0, .int .u8 0, .int .u8 0, .int .u8 0, .int .u8 0, .int .u8 0, .int .u8 0, .int .u8 0, .int .i64 0, .int .i64 0, .int .i64 0, .int .i64 0] Hr1.out HIK.out (by as_aux_lemma => kernel_rfl) (one_cells _) ?_
              have HBC := Lib.hid (below_setRow' HBA.out (Nat.le_succ _) K.cells)
              refine hKq.out _ _ (HBC.out) (fun hHeld2 => ?_)
              clear hKq Kq hHeld
              have hHeld := hHeld2
              clear hHeld2
              simp only [Act.put, List.setIfInBounds_toArray, List.set_cons_zero, List.set_cons_succ]
              have rb := (setRow_other Xw (wr.heap.size + 1) wr.heap.size K.cells (Nat.ne_of_lt (Nat.lt_succ_self _))).trans Hr0.out
              have ra := setRow_heap _ _ _ K.cells _ _ Hr1.out
              refine wpAnyH_ready (rs := [5]) (by kernel_rfl) (by simp) ?_
              refine AllReadyH.cons (i := 5) (rs := []) rfl ?_ AllReadyH.nil
              intro Kq hKq
              simp only [List.getElem_toArray, List.getElem_cons_succ, List.getElem_cons_zero]
              rw [if_pos (by rfl)]
              refine wp_store_row 27 (.tmp 21) (.tmp 109) (by rfl) wr.heap.size L.cells (by as_aux_lemma => kernel_rfl) (by as_aux_lemma => kernel_rfl) 27 #[.int .u8 0, .int .u8 0, .int .u8 0, .int .u8 0, .int .u8 0, .int .u8 0, .int .u8 0, .int .u8 0, .int .u8 0, .int .u8 0, .int .u8 0, .int .u8 0, .int .u8 0, .int .i64 0, .int .i64 0, .int .i64 0, .int .i64 0] rb HIL.out (by as_aux_lemma => kernel_rfl) (one_cells _) ?_
              have HBD := Lib.hid (below_setRow' HBC.out (Nat.le_refl _) L.cells)
              refine hKq.out _ _ (HBD.out) (fun hHeld2 => ?_)
              clear hKq Kq hHeld
              have hHeld := hHeld2
              clear hHeld2
              simp only [Act.put, List.setIfInBounds_toArray, List.set_cons_zero, List.set_cons_succ]
              clear hHeld
              refine wpAnyH_done (by kernel_rfl) ?_ _
              go_wp2_with fail
              go_meet
              case rel => exact ⟨(wr.heap.size + 1), wr.heap.size, rfl, rfl, (Nat.ne_of_gt (Nat.lt_succ_self _)), (Nat.le_succ _), (Nat.le_refl _), (setRow_other _ _ _ _ (Nat.ne_of_gt (Nat.lt_succ_self _))).trans ra, setRow_heap _ _ _ _ _ _ rb, HBD.out⟩
        case rest =>
          obtain ⟨T1, T2, rfl, rfl, hne, hT1, hT2, r1, r2, hb⟩ := hcut
          obtain ⟨wa, hwe⟩ : ∃ q, q = wc := ⟨_, rfl⟩
          subst hwe
          have RC := Lib.hid r1
          have RD := Lib.hid r2
          have HBA := Lib.hid hb
          clear r1 r2 hb
          go_upto_if 112 with fail
          go_cut [20] (fun t20 wx => t20 = .pointer (some ⟨T1, 0, none⟩) ∧ wx.heap[T1]? = some (.cells K1.cells 27) ∧ wx.heap[T2]? = some (.cells L1.cells 27) ∧ Below wr.heap.size wr wx)
          case first =>
            as_aux_lemma =>
              by_cases hM : (i : Int) = mine
              · have hMb : ((i : Int) == mine) = true := by simpa using hM
                obtain ⟨m0, m1, rfl, hm0, hm1, hp, hq⟩ := D1.out hM
                have hL1 : L1.By := by have h := fine_handle HL.out m0 now; rw [hp] at h; exact h.1
                have HIK1 := Lib.hid (link_info2 K1)
                have HIL1 := Lib.hid (link_info2 L1)
                have HIKn := Lib.hid (link_info2 K)
                have HILn := Lib.hid (link_info2 L)
                have CH1 := Lib.hid (fun (W : World) (mv : Value) (hmv : MsgIn W mv m0) => ret_of hp (handle_any L HL.out now mv m0 W hmv))
                have CH2 := Lib.hid (fun (W : World) (mv : Value) (hmv : MsgIn W mv m1) => ret_of hq (handle_any K HK.out now mv m1 W hmv))
                have FM1 := Lib.hid (one_ok hm1)
                clear hp hq hm0 hm1
                obtain ⟨gX, oX, cX2, mv, eX, hcap, hcX, hmX⟩ := head_in LX.out
                have eX2 := eX
                simp only [List.length_cons, List.length_nil, Value.slice.injEq] at eX2
                obtain ⟨rfl, _, rfl⟩ := eX2
                clear eX
                have xc : wa.cell? ⟨gX, oX, none⟩ = some mv := below_kept HBA.out hcX
                have HMX := Lib.hid (hmX.below HBA.out)
                clear hcX hmX
                have l2 : T2 < wa.heap.size := row_lt RD.out
                have l1 : T1 < wa.heap.size := row_lt RC.out
                have RLW := Lib.hid (show wa.heap[b0]? = some (.cells L.cells 27) from row_below HBA.out RB.out)
                go_upto_region 17 with fail
                go_cut [22, 23, 24] (fun t10 t11 t12 wx => ∃ T v2, t10 = .pointer (some ⟨T, 0, none⟩) ∧ t11 = v2 ∧ t12 = .int .i64 0 ∧ wa.heap.size ≤ T ∧ wx.heap[T]? = some (.cells L1.cells 27) ∧ Below wa.heap.size wa wx ∧ ListOk (fun b => wa.heap.size ≤ b) wx v2 [m1])
                case first =>
                  as_aux_lemma =>
                    refine wp_region_held_drew (S := fun w' => Below wa.heap.size wa w') (by kernel_rfl) ((Below.refl _ _).drew) (fun hHeld => ?_)
                    refine wpAnyH_take (i := 0) (v := .agg L.cells) rfl (by kernel_rfl) (by kernel_rfl) (by kernel_rfl) (fun _ _ _ h => h) (yields_sub (by rfl) 27 _ rfl (b0) 0 (by rfl) L.cells _ (fun w' h' => range_row (row_below h' RLW.out)) Try.underlying27 rfl HILn.out) (by assumption) ?_
                    simp only [Act.put, List.setIfInBounds_toArray, List.set_cons_zero, List.set_cons_succ, List.getElem_toArray, List.getElem_cons_succ, List.getElem_cons_zero]
                    refine wpAnyH_take (i := 1) (v := .slice (some ⟨gX, oX, none⟩) 1 cX) rfl (by kernel_rfl) (by kernel_rfl) (by kernel_rfl) (fun _ _ _ h => h) (Or.inl ⟨by rfl, by intro w hSw; clear hHeld hSw; go_simp; (try rfl)⟩) (by assumption) ?_
                    simp only [Act.put, List.setIfInBounds_toArray, List.set_cons_zero, List.set_cons_succ, List.getElem_toArray, List.getElem_cons_succ, List.getElem_cons_zero]
                    refine wpAnyH_take (i := 2) (v := .pointer (some ⟨gX, oX, none⟩)) rfl (by kernel_rfl) (by kernel_rfl) (by kernel_rfl) (fun _ _ _ h => h) (Or.inl ⟨by rfl, by intro w hSw; clear hHeld hSw; go_simp; (try rfl)⟩) (by assumption) ?_
                    simp only [Act.put, List.setIfInBounds_toArray, List.set_cons_zero, List.set_cons_succ, List.getElem_toArray, List.getElem_cons_succ, List.getElem_cons_zero]
                    refine wpAnyH_take (i := 3) (v := mv) rfl (by kernel_rfl) (by kernel_rfl) (by kernel_rfl) (fun _ _ _ h => h) (Or.inl ⟨by rfl, by intro w hSw; have tq := below_kept hSw xc; clear hHeld hSw; go_simp⟩) (by assumption) ?_
                    simp only [Act.put, List.setIfInBounds_toArray, List.set_cons_zero, List.set_cons_succ, List.getElem_toArray, List.getElem_cons_succ, List.getElem_cons_zero]
                    refine wpAnyH_take (i := 4) (v := .int .i64 now) rfl (by kernel_rfl) (by kernel_rfl) (by kernel_rfl) (fun _ _ _ h => h) (Or.inl ⟨by rfl, by intro w hSw; clear hHeld hSw; go_simp; (try rfl)⟩) (by assumption) ?_
                    simp only [Act.put, List.setIfInBounds_toArray, List.set_cons_zero, List.set_cons_succ, List.getElem_toArray, List.getElem_cons_succ, List.getElem_cons_zero]
                    refine wpAnyH_ready (rs := [5, 10]) (by kernel_rfl) (by simp) ?_
                    refine AllReadyH.cons (i := 5) (rs := [10]) rfl ?_ (AllReadyH.cons (i := 10) (rs := []) rfl ?_ AllReadyH.nil)
                    · intro Kq hKq
                      simp only [List.getElem_toArray, List.getElem_cons_succ, List.getElem_cons_zero]
                      rw [if_pos (by rfl)]
                      have HSZ0 : wa.heap.size ≤ (wa.drew).heap.size := hHeld.size
                      refine wp_call_fn 20 #[.agg L.cells, mv, .int .i64 now] (_) (by as_aux_lemma => kernel_rfl) (CH1.out _ _ (MsgIn.below HMX.out hHeld)) ?_
                      rintro e w1 ⟨v2, rfl, hO, hb⟩
                      refine ⟨.tuple #[.agg L1.cells, v2, .int .i64 0], rfl, ?_⟩
                      have HB1 := Lib.hid (hHeld.trans (hb.mono HSZ0))
                      have HBZ : wa.heap.size ≤ w1.heap.size := HB1.out.size
                      refine hKq.out _ _ (HB1.out) (fun hHeld2 => ?_)
                      clear hKq Kq hHeld
                      have hHeld := hHeld2
                      clear hHeld2
                      simp only [Act.put, List.setIfInBounds_toArray, List.set_cons_zero, List.set_cons_succ]
                      refine wpAnyH_take (i := 6) (v := .tuple #[.agg L1.cells, v2, .int .i64 0]) rfl (by kernel_rfl) (by kernel_rfl) (by kernel_rfl) (fun _ _ _ h => h) (Or.inl ⟨by rfl, by intro w hSw; clear hHeld hSw; go_simp; (try rfl)⟩) (by assumption) ?_
                      simp only [Act.put, List.setIfInBounds_toArray, List.set_cons_zero, List.set_cons_succ, List.getElem_toArray, List.getElem_cons_succ, List.getElem_cons_zero]
                      refine wpAnyH_take (i := 7) (v := .agg L1.cells) rfl (by kernel_rfl) (by kernel_rfl) (by kernel_rfl) (fun _ _ _ h => h) (Or.inl ⟨by rfl, by intro w hSw; clear hHeld hSw; go_simp; (try rfl)⟩) (by assumption) ?_
                      simp only [Act.put, List.setIfInBounds_toArray, List.set_cons_zero, List.set_cons_succ, List.getElem_toArray, List.getElem_cons_succ, List.getElem_cons_zero]
                      refine wpAnyH_take (i := 8) (v := v2) rfl (by kernel_rfl) (by kernel_rfl) (by kernel_rfl) (fun _ _ _ h => h) (Or.inl ⟨by rfl, by intro w hSw; clear hHeld hSw; go_simp; (try rfl)⟩) (by assumption) ?_
                      simp only [Act.put, List.setIfInBounds_toArray, List.set_cons_zero, List.set_cons_succ, List.getElem_toArray, List.getElem_cons_succ, List.getElem_cons_zero]
                      refine wpAnyH_take (i := 9) (v := .int .i64 0) rfl (by kernel_rfl) (by kernel_rfl) (by kernel_rfl) (fun _ _ _ h => h) (Or.inl ⟨by rfl, by intro w hSw; clear hHeld hSw; go_simp; (try rfl)⟩) (by assumption) ?_
                      simp only [Act.put, List.setIfInBounds_toArray, List.set_cons_zero, List.set_cons_succ, List.getElem_toArray, List.getElem_cons_succ, List.getElem_cons_zero]
                      refine wpAnyH_ready (rs := [10]) (by kernel_rfl) (by simp) ?_
                      refine AllReadyH.cons (i := 10) (rs := []) rfl ?_ AllReadyH.nil
                      intro Kq hKq
                      simp only [List.getElem_toArray, List.getElem_cons_succ, List.getElem_cons_zero]
                      rw [if_pos (by rfl)]
                      have HTA : wa.heap.size ≤ w1.heap.size := hHeld.size
                      refine wp_op_value (.pointer (some ⟨w1.heap.size, 0, none⟩)) (w1.alloc (.cells #[.int .u8 0, .int .u8 0, .int .u8 0, .int .u8 0, .int .u8 0, .int .u8 0, .int .u8 0, .int .u8 0, .int .u8 0, .int .u8 0, .int .u8 0, .int .u8 0, .int .u8 0, .int .i64 0, .int .i64 0, .int .i64 0, .int .i64 0] 27)) (by as_aux_lemma => kernel_rfl) ?_
                      refine hKq.out _ _ ((hHeld.alloc hHeld.size _)) (fun hHeld2 => ?_)
                      clear hKq Kq hHeld
                      have hHeld := hHeld2
                      clear hHeld2
                      simp only [Act.put, List.setIfInBounds_toArray, List.set_cons_zero, List.set_cons_succ]
                      have HBA := Lib.hid (show Below wa.heap.size wa (w1.alloc (.cells L1.cells 27)) from HB1.out.alloc HBZ _)
                      refine wpAnyH_ready (rs := [11]) (by kernel_rfl) (by simp) ?_
                      refine AllReadyH.cons (i := 11) (rs := []) rfl ?_ AllReadyH.nil
                      intro Kq hKq
                      simp only [List.getElem_toArray, List.getElem_cons_succ, List.getElem_cons_zero]
                      rw [if_pos (by rfl)]
                      refine wp_store_row 27 (.tmp 22) (.tmp 120) (by rfl) (w1.heap.size) L1.cells (by as_aux_lemma => kernel_rfl) (by as_aux_lemma => kernel_rfl) 27 #[.int .u8 0, .int .u8 0, .int .u8 0, .int .u8 0, .int .u8 0, .int .u8 0, .int .u8 0, .int .u8 0, .int .u8 0, .int .u8 0, .int .u8 0, .int .u8 0, .int .u8 0, .int .i64 0, .int .i64 0, .int .i64 0, .int .i64 0] (heap_alloc_new _ _) HIL1.out (by as_aux_lemma => kernel_rfl) (one_cells _) ?_
                      rw [setRow_alloc]
                      refine hKq.out _ _ (HBA.out) (fun hHeld2 => ?_)
                      clear hKq Kq hHeld
                      have hHeld := hHeld2
                      clear hHeld2
                      simp only [Act.put, List.setIfInBounds_toArray, List.set_cons_zero, List.set_cons_succ]
                      refine wpAnyH_take (i := 12) (v := v2) rfl (by kernel_rfl) (by kernel_rfl) (by kernel_rfl) (fun _ _ _ h => h) (Or.inl ⟨by rfl, by intro w hSw; clear hHeld hSw; go_simp; (try rfl)⟩) (by assumption) ?_
                      simp only [Act.put, List.setIfInBounds_toArray, List.set_cons_zero, List.set_cons_succ, List.getElem_toArray, List.getElem_cons_succ, List.getElem_cons_zero]
                      refine wpAnyH_take (i := 13) (v := .int .i64 0) rfl (by kernel_rfl) (by kernel_rfl) (by kernel_rfl) (fun _ _ _ h => h) (Or.inl ⟨by rfl, by intro w hSw; clear hHeld hSw; go_simp; (try rfl)⟩) (by assumption) ?_
                      simp only [Act.put, List.setIfInBounds_toArray, List.set_cons_zero, List.set_cons_succ, List.getElem_toArray, List.getElem_cons_succ, List.getElem_cons_zero]
                      clear hHeld
                      refine wpAnyH_done (by kernel_rfl) ?_ _
                      have HT : wa.heap.size ≤ w1.heap.size ∧ (w1.alloc (.cells L1.cells 27)).heap[w1.heap.size]? = some (.cells L1.cells 27) ∧ Below wa.heap.size wa (w1.alloc (.cells L1.cells 27)) ∧ ListOk (fun b => wa.heap.size ≤ b) (w1.alloc (.cells L1.cells 27)) v2 [m1] := ⟨HBZ, heap_alloc_new _ _, HBA.out, ((hO.listOk FM1.out (Nat.le_trans (show 1 ≤ 2 by decide) (by unfold maxLen; decide))).mono (fun b q => Nat.le_trans HSZ0 q)).keep (kept_below ((Below.refl _ _).alloc (Nat.le_refl _) _))⟩
                      go_wp2_with fail
                      go_meet
                      case rel => exact ⟨_, _, rfl, rfl, rfl, HT⟩
                    · intro Kq hKq
                      simp only [List.getElem_toArray, List.getElem_cons_succ, List.getElem_cons_zero]
                      rw [if_pos (by rfl)]
                      have HTA : wa.heap.size ≤ wa.heap.size := hHeld.size
                      refine wp_op_value (.pointer (some ⟨wa.heap.size, 0, none⟩)) (wa.drew.alloc (.cells #[.int .u8 0, .int .u8 0, .int .u8 0, .int .u8 0, .int .u8 0, .int .u8 0, .int .u8 0, .int .u8 0, .int .u8 0, .int .u8 0, .int .u8 0, .int .u8 0, .int .u8 0, .int .i64 0, .int .i64 0, .int .i64 0, .int .i64 0] 27)) (by as_aux_lemma => kernel_rfl) ?_
                      refine hKq.out _ _ ((hHeld.alloc hHeld.size _)) (fun hHeld2 => ?_)
                      clear hKq Kq hHeld
                      have hHeld := hHeld2
                      clear hHeld2
                      simp only [Act.put, List.setIfInBounds_toArray, List.set_cons_zero, List.set_cons_succ]
                      refine wpAnyH_ready (rs := [5]) (by kernel_rfl) (by simp) ?_
                      refine AllReadyH.cons (i := 5) (rs := []) rfl ?_ AllReadyH.nil
                      intro Kq hKq
                      simp only [List.getElem_toArray, List.getElem_cons_succ, List.getElem_cons_zero]
                      rw [if_pos (by rfl)]
                      have HSZ0 : wa.heap.size ≤ ((wa.drew.alloc (.cells #[.int .u8 0, .int .u8 0, .int .u8 0, .int .u8 0, .int .u8 0, .int .u8 0, .int .u8 0, .int .u8 0, .int .u8 0, .int .u8 0, .int .u8 0, .int .u8 0, .int .u8 0, .int .i64 0, .int .i64 0, .int .i64 0, .int .i64 0] 27))).heap.size := hHeld.size
                      refine wp_call_fn 20 #[.agg L.cells, mv, .int .i64 now] (_) (by as_aux_lemma => kernel_rfl) (CH1.out _ _ (MsgIn.below HMX.out hHeld)) ?_
                      rintro e w1 ⟨v2, rfl, hO, hb⟩
                      refine ⟨.tuple #[.agg L1.cells, v2, .int .i64 0], rfl, ?_⟩
                      have HB1 := Lib.hid (hHeld.trans (hb.mono HSZ0))
                      have HBZ : wa.heap.size ≤ w1.heap.size := HB1.out.size
                      refine hKq.out _ _ (HB1.out) (fun hHeld2 => ?_)
                      clear hKq Kq hHeld
                      have hHeld := hHeld2
                      clear hHeld2
                      simp only [Act.put, List.setIfInBounds_toArray, List.set_cons_zero, List.set_cons_succ]
                      have HRT := Lib.hid (row_below hb (heap_alloc_new _ _))
                      have HTL : wa.heap.size < ((wa.drew.alloc (.cells #[.int .u8 0, .int .u8 0, .int .u8 0, .int .u8 0, .int .u8 0, .int .u8 0, .int .u8 0, .int .u8 0, .int .u8 0, .int .u8 0, .int .u8 0, .int .u8 0, .int .u8 0, .int .i64 0, .int .i64 0, .int .i64 0, .int .i64 0] 27))).heap.size := lt_alloc _ _
                      refine wpAnyH_take (i := 6) (v := .tuple #[.agg L1.cells, v2, .int .i64 0]) rfl (by kernel_rfl) (by kernel_rfl) (by kernel_rfl) (fun _ _ _ h => h) (Or.inl ⟨by rfl, by intro w hSw; clear hHeld hSw; go_simp; (try rfl)⟩) (by assumption) ?_
                      simp only [Act.put, List.setIfInBounds_toArray, List.set_cons_zero, List.set_cons_succ, List.getElem_toArray, List.getElem_cons_succ, List.getElem_cons_zero]
                      refine wpAnyH_take (i := 7) (v := .agg L1.cells) rfl (by kernel_rfl) (by kernel_rfl) (by kernel_rfl) (fun _ _ _ h => h) (Or.inl ⟨by rfl, by intro w hSw; clear hHeld hSw; go_simp; (try rfl)⟩) (by assumption) ?_
                      simp only [Act.put, List.setIfInBounds_toArray, List.set_cons_zero, List.set_cons_succ, List.getElem_toArray, List.getElem_cons_succ, List.getElem_cons_zero]
                      refine wpAnyH_take (i := 8) (v := v2) rfl (by kernel_rfl) (by kernel_rfl) (by kernel_rfl) (fun _ _ _ h => h) (Or.inl ⟨by rfl, by intro w hSw; clear hHeld hSw; go_simp; (try rfl)⟩) (by assumption) ?_
                      simp only [Act.put, List.setIfInBounds_toArray, List.set_cons_zero, List.set_cons_succ, List.getElem_toArray, List.getElem_cons_succ, List.getElem_cons_zero]
                      refine wpAnyH_take (i := 9) (v := .int .i64 0) rfl (by kernel_rfl) (by kernel_rfl) (by kernel_rfl) (fun _ _ _ h => h) (Or.inl ⟨by rfl, by intro w hSw; clear hHeld hSw; go_simp; (try rfl)⟩) (by assumption) ?_
                      simp only [Act.put, List.setIfInBounds_toArray, List.set_cons_zero, List.set_cons_succ, List.getElem_toArray, List.getElem_cons_succ, List.getElem_cons_zero]
                      have HBA := Lib.hid (show Below wa.heap.size wa (w1.setRow (wa.heap.size) L1.cells) from below_setRow' HB1.out HTA _)
                      refine wpAnyH_ready (rs := [11]) (by kernel_rfl) (by simp) ?_
                      refine AllReadyH.cons (i := 11) (rs := []) rfl ?_ AllReadyH.nil
                      intro Kq hKq
                      simp only [List.getElem_toArray, List.getElem_cons_succ, List.getElem_cons_zero]
                      rw [if_pos (by rfl)]
                      refine wp_store_row 27 (.tmp 22) (.tmp 120) (by rfl) (wa.heap.size) L1.cells (by as_aux_lemma => kernel_rfl) (by as_aux_lemma => kernel_rfl) 27 #[.int .u8 0, .int .u8 0, .int .u8 0, .int .u8 0, .int .u8 0, .int .u8 0, .int .u8 0, .int .u8 0, .int .u8 0, .int .u8 0, .int .u8 0, .int .u8 0, .int .u8 0, .int .i64 0, .int .i64 0, .int .i64 0, .int .i64 0] HRT.out HIL1.out (by as_aux_lemma => kernel_rfl) (one_cells _) ?_
                      refine hKq.out _ _ (HBA.out) (fun hHeld2 => ?_)
                      clear hKq Kq hHeld
                      have hHeld := hHeld2
                      clear hHeld2
                      simp only [Act.put, List.setIfInBounds_toArray, List.set_cons_zero, List.set_cons_succ]
                      refine wpAnyH_take (i := 12) (v := v2) rfl (by kernel_rfl) (by kernel_rfl) (by kernel_rfl) (fun _ _ _ h => h) (Or.inl ⟨by rfl, by intro w hSw; clear hHeld hSw; go_simp; (try rfl)⟩) (by assumption) ?_
                      simp only [Act.put, List.setIfInBounds_toArray, List.set_cons_zero, List.set_cons_succ, List.getElem_toArray, List.getElem_cons_succ, List.getElem_cons_zero]
                      refine wpAnyH_take (i := 13) (v := .int .i64 0) rfl (by kernel_rfl) (by kernel_rfl) (by kernel_rfl) (fun _ _ _ h => h) (Or.inl ⟨by rfl, by intro w hSw; clear hHeld hSw; go_simp; (try rfl)⟩) (by assumption) ?_
                      simp only [Act.put, List.setIfInBounds_toArray, List.set_cons_zero, List.set_cons_succ, List.getElem_toArray, List.getElem_cons_succ, List.getElem_cons_zero]
                      clear hHeld
                      refine wpAnyH_done (by kernel_rfl) ?_ _
                      have HT : wa.heap.size ≤ wa.heap.size ∧ (w1.setRow (wa.heap.size) L1.cells).heap[wa.heap.size]? = some (.cells L1.cells 27) ∧ Below wa.heap.size wa (w1.setRow (wa.heap.size) L1.cells) ∧ ListOk (fun b => wa.heap.size ≤ b) (w1.setRow (wa.heap.size) L1.cells) v2 [m1] := ⟨HTA, setRow_heap _ _ _ _ _ _ HRT.out, HBA.out, ((hO.setRow (wa.heap.size) HTL L1.cells).listOk FM1.out (Nat.le_trans (show 1 ≤ 2 by decide) (by unfold maxLen; decide))).mono (fun b q => Nat.le_trans HSZ0 q)⟩
                      go_wp2_with fail
                      go_meet
                      case rel => exact ⟨_, _, rfl, rfl, rfl, HT⟩
                case rest =>
                  obtain ⟨T3, v2, rfl, rfl, rfl, hT3, r3, hb, lx⟩ := hcut
                  obtain ⟨wbm, hwe⟩ : ∃ q, q = wc := ⟨_, rfl⟩
                  subst hwe
                  obtain ⟨g2, o2, c2, mv2, e2, hcap2, hok2, hc2, hm2⟩ := head_ok lx
                  subst e2
                  have R3 := Lib.hid r3
                  have RCb := Lib.hid (row_below hb RC.out)
                  have RDb := Lib.hid (row_below hb RD.out)
                  have HBb := Lib.hid (HBA.out.trans (hb.mono HBA.out.size))
                  clear lx r3 hb xc HMX
                  go_upto_region 21 with (first
                    | (with_reducible refine wpList_load_row rfl 27 (.tmp 22) rfl T3 rfl 27 L1.cells (0, 0) _ R3.out Try.underlying27 rfl HIL1.out ?_)
                    | ((with_reducible refine wpList_store_rowTo rfl 27 (.tmp 21) (.tmp 130) rfl rfl T2 L1.cells ?_ ?_ 27 L.cells RDb.out HIL1.out rfl (one_cells _) ?_); (as_aux_lemma => kernel_rfl); (as_aux_lemma => kernel_rfl)))
                  simp only [Act.put, List.setIfInBounds_toArray, List.set_cons_succ, List.set_cons_zero]
                  have RCd := Lib.hid (show (wbm.setRow T2 L1.cells).heap[T1]? = some (.cells K.cells 27) from (setRow_other _ _ _ _ hne).trans RCb.out)
                  have RDd := Lib.hid (show (wbm.setRow T2 L1.cells).heap[T2]? = some (.cells L1.cells 27) from setRow_heap _ _ _ _ _ _ RDb.out)
                  have HBd := Lib.hid (show Below wr.heap.size wr (wbm.setRow T2 L1.cells) from below_setRow' HBb.out hT2 _)
                  have xd : (wbm.setRow T2 L1.cells).cell? ⟨g2, o2, none⟩ = some mv2 := kept_cell (ok := fun b => wa.heap.size ≤ b) (kept_setRow (Nat.not_le_of_lt l2)) hok2 hc2
                  have HM2 := Lib.hid (show MsgIn (wbm.setRow T2 L1.cells) mv2 m1 from (hm2.keep (kept_setRow (Nat.not_le_of_lt l2))).2.1)
                  clear hc2 hm2 RCb RDb HBb R3
                  generalize hgen : (wbm.setRow T2 L1.cells) = wdm at *
                  clear hgen
                  have RKW := Lib.hid (show wdm.heap[a0]? = some (.cells K.cells 27) from row_below HBd.out RA.out)
                  go_cut [25, 26, 27] (fun t10 t11 t12 wx => ∃ T v2, t10 = .pointer (some ⟨T, 0, none⟩) ∧ t11 = v2 ∧ t12 = .int .i64 0 ∧ wdm.heap.size ≤ T ∧ wx.heap[T]? = some (.cells K1.cells 27) ∧ Below wdm.heap.size wdm wx ∧ ListOk (fun b => wdm.heap.size ≤ b) wx v2 ([] : List (List Int)))
                  case first =>
                    as_aux_lemma =>
                      refine wp_region_held_drew (S := fun w' => Below wdm.heap.size wdm w') (by kernel_rfl) ((Below.refl _ _).drew) (fun hHeld => ?_)
                      refine wpAnyH_take (i := 0) (v := .agg K.cells) rfl (by kernel_rfl) (by kernel_rfl) (by kernel_rfl) (fun _ _ _ h => h) (yields_sub (by rfl) 27 _ rfl (a0) 0 (by rfl) K.cells _ (fun w' h' => range_row (row_below h' RKW.out)) Try.underlying27 rfl HIKn.out) (by assumption) ?_
                      simp only [Act.put, List.setIfInBounds_toArray, List.set_cons_zero, List.set_cons_succ, List.getElem_toArray, List.getElem_cons_succ, List.getElem_cons_zero]
                      refine wpAnyH_take (i := 1) (v := .slice (some ⟨g2, o2, none⟩) 1 c2) rfl (by kernel_rfl) (by kernel_rfl) (by kernel_rfl) (fun _ _ _ h => h) (Or.inl ⟨by rfl, by intro w hSw; clear hHeld hSw; go_simp; (try rfl)⟩) (by assumption) ?_
                      simp only [Act.put, List.setIfInBounds_toArray, List.set_cons_zero, List.set_cons_succ, List.getElem_toArray, List.getElem_cons_succ, List.getElem_cons_zero]
                      refine wpAnyH_take (i := 2) (v := .pointer (some ⟨g2, o2, none⟩)) rfl (by kernel_rfl) (by kernel_rfl) (by kernel_rfl) (fun _ _ _ h => h) (Or.inl ⟨by rfl, by intro w hSw; clear hHeld hSw; go_simp; (try rfl)⟩) (by assumption) ?_
                      simp only [Act.put, List.setIfInBounds_toArray, List.set_cons_zero, List.set_cons_succ, List.getElem_toArray, List.getElem_cons_succ, List.getElem_cons_zero]
                      refine wpAnyH_take (i := 3) (v := mv2) rfl (by kernel_rfl) (by kernel_rfl) (by kernel_rfl) (fun _ _ _ h => h) (Or.inl ⟨by rfl, by intro w hSw; have tq := below_kept hSw xd; clear hHeld hSw; go_simp⟩) (by assumption) ?_
                      simp only [Act.put, List.setIfInBounds_toArray, List.set_cons_zero, List.set_cons_succ, List.getElem_toArray, List.getElem_cons_succ, List.getElem_cons_zero]
                      refine wpAnyH_take (i := 4) (v := .int .i64 now) rfl (by kernel_rfl) (by kernel_rfl) (by kernel_rfl) (fun _ _ _ h => h) (Or.inl ⟨by rfl, by intro w hSw; clear hHeld hSw; go_simp; (try rfl)⟩) (by assumption) ?_
                      simp only [Act.put, List.setIfInBounds_toArray, List.set_cons_zero, List.set_cons_succ, List.getElem_toArray, List.getElem_cons_succ, List.getElem_cons_zero]
                      refine wpAnyH_ready (rs := [5, 10]) (by kernel_rfl) (by simp) ?_
                      refine AllReadyH.cons (i := 5) (rs := [10]) rfl ?_ (AllReadyH.cons (i := 10) (rs := []) rfl ?_ AllReadyH.nil)
                      · intro Kq hKq
                        simp only [List.getElem_toArray, List.getElem_cons_succ, List.getElem_cons_zero]
                        rw [if_pos (by rfl)]
                        have HSZ0 : wdm.heap.size ≤ (wdm.drew).heap.size := hHeld.size
                        refine wp_call_fn 20 #[.agg K.cells, mv2, .int .i64 now] (_) (by as_aux_lemma => kernel_rfl) (CH2.out _ _ (MsgIn.below HM2.out hHeld)) ?_
                        rintro e w1 ⟨v2, rfl, hO, hb⟩
                        refine ⟨.tuple #[.agg K1.cells, v2, .int .i64 0], rfl, ?_⟩
                        have HB1 := Lib.hid (hHeld.trans (hb.mono HSZ0))
                        have HBZ : wdm.heap.size ≤ w1.heap.size := HB1.out.size
                        refine hKq.out _ _ (HB1.out) (fun hHeld2 => ?_)
                        clear hKq Kq hHeld
                        have hHeld := hHeld2
                        clear hHeld2
                        simp only [Act.put, List.setIfInBounds_toArray, List.set_cons_zero, List.set_cons_succ]
                        refine wpAnyH_take (i := 6) (v := .tuple #[.agg K1.cells, v2, .int .i64 0]) rfl (by kernel_rfl) (by kernel_rfl) (by kernel_rfl) (fun _ _ _ h => h) (Or.inl ⟨by rfl, by intro w hSw; clear hHeld hSw; go_simp; (try rfl)⟩) (by assumption) ?_
                        simp only [Act.put, List.setIfInBounds_toArray, List.set_cons_zero, List.set_cons_succ, List.getElem_toArray, List.getElem_cons_succ, List.getElem_cons_zero]
                        refine wpAnyH_take (i := 7) (v := .agg K1.cells) rfl (by kernel_rfl) (by kernel_rfl) (by kernel_rfl) (fun _ _ _ h => h) (Or.inl ⟨by rfl, by intro w hSw; clear hHeld hSw; go_simp; (try rfl)⟩) (by assumption) ?_
                        simp only [Act.put, List.setIfInBounds_toArray, List.set_cons_zero, List.set_cons_succ, List.getElem_toArray, List.getElem_cons_succ, List.getElem_cons_zero]
                        refine wpAnyH_take (i := 8) (v := v2) rfl (by kernel_rfl) (by kernel_rfl) (by kernel_rfl) (fun _ _ _ h => h) (Or.inl ⟨by rfl, by intro w hSw; clear hHeld hSw; go_simp; (try rfl)⟩) (by assumption) ?_
                        simp only [Act.put, List.setIfInBounds_toArray, List.set_cons_zero, List.set_cons_succ, List.getElem_toArray, List.getElem_cons_succ, List.getElem_cons_zero]
                        refine wpAnyH_take (i := 9) (v := .int .i64 0) rfl (by kernel_rfl) (by kernel_rfl) (by kernel_rfl) (fun _ _ _ h => h) (Or.inl ⟨by rfl, by intro w hSw; clear hHeld hSw; go_simp; (try rfl)⟩) (by assumption) ?_
                        simp only [Act.put, List.setIfInBounds_toArray, List.set_cons_zero, List.set_cons_succ, List.getElem_toArray, List.getElem_cons_succ, List.getElem_cons_zero]
                        refine wpAnyH_ready (rs := [10]) (by kernel_rfl) (by simp) ?_
                        refine AllReadyH.cons (i := 10) (rs := []) rfl ?_ AllReadyH.nil
                        intro Kq hKq
                        simp only [List.getElem_toArray, List.getElem_cons_succ, List.getElem_cons_zero]
                        rw [if_pos (by rfl)]
                        have HTA : wdm.heap.size ≤ w1.heap.size := hHeld.size
                        refine wp_op_value (.pointer (some ⟨w1.heap.size, 0, none⟩)) (w1.alloc (.cells #[.int .u8 0, .int .u8 0, .int .u8 0, .int .u8 0, .int .u8 0, .int .u8 0, .int .u8 0, .int .u8 0, .int .u8 0, .int .u8 0, .int .u8 0, .int .u8 0, .int .u8 0, .int .i64 0, .int .i64 0, .int .i64 0, .int .i64 0] 27)) (by as_aux_lemma => kernel_rfl) ?_
                        refine hKq.out _ _ ((hHeld.alloc hHeld.size _)) (fun hHeld2 => ?_)
                        clear hKq Kq hHeld
                        have hHeld := hHeld2
                        clear hHeld2
                        simp only [Act.put, List.setIfInBounds_toArray, List.set_cons_zero, List.set_cons_succ]
                        have HBA := Lib.hid (show Below wdm.heap.size wdm (w1.alloc (.cells K1.cells 27)) from HB1.out.alloc HBZ _)
                        refine wpAnyH_ready (rs := [11]) (by kernel_rfl) (by simp) ?_
                        refine AllReadyH.cons (i := 11) (rs := []) rfl ?_ AllReadyH.nil
                        intro Kq hKq
                        simp only [List.getElem_toArray, List.getElem_cons_succ, List.getElem_cons_zero]
                        rw [if_pos (by rfl)]
                        refine wp_store_row 27 (.tmp 25) (.tmp 138) (by rfl) (w1.heap.size) K1.cells (by as_aux_lemma => kernel_rfl) (by as_aux_lemma => kernel_rfl) 27 #[.int .u8 0, .int .u8 0, .int .u8 0, .int .u8 0, .int .u8 0, .int .u8 0, .int .u8 0, .int .u8 0, .int .u8 0, .int .u8 0, .int .u8 0, .int .u8 0, .int .u8 0, .int .i64 0, .int .i64 0, .int .i64 0, .int .i64 0] (heap_alloc_new _ _) HIK1.out (by as_aux_lemma => kernel_rfl) (one_cells _) ?_
                        rw [setRow_alloc]
                        refine hKq.out _ _ (HBA.out) (fun hHeld2 => ?_)
                        clear hKq Kq hHeld
                        have hHeld := hHeld2
                        clear hHeld2
                        simp only [Act.put, List.setIfInBounds_toArray, List.set_cons_zero, List.set_cons_succ]
                        refine wpAnyH_take (i := 12) (v := v2) rfl (by kernel_rfl) (by kernel_rfl) (by kernel_rfl) (fun _ _ _ h => h) (Or.inl ⟨by rfl, by intro w hSw; clear hHeld hSw; go_simp; (try rfl)⟩) (by assumption) ?_
                        simp only [Act.put, List.setIfInBounds_toArray, List.set_cons_zero, List.set_cons_succ, List.getElem_toArray, List.getElem_cons_succ, List.getElem_cons_zero]
                        refine wpAnyH_take (i := 13) (v := .int .i64 0) rfl (by kernel_rfl) (by kernel_rfl) (by kernel_rfl) (fun _ _ _ h => h) (Or.inl ⟨by rfl, by intro w hSw; clear hHeld hSw; go_simp; (try rfl)⟩) (by assumption) ?_
                        simp only [Act.put, List.setIfInBounds_toArray, List.set_cons_zero, List.set_cons_succ, List.getElem_toArray, List.getElem_cons_succ, List.getElem_cons_zero]
                        clear hHeld
                        refine wpAnyH_done (by kernel_rfl) ?_ _
                        have HT : wdm.heap.size ≤ w1.heap.size ∧ (w1.alloc (.cells K1.cells 27)).heap[w1.heap.size]? = some (.cells K1.cells 27) ∧ Below wdm.heap.size wdm (w1.alloc (.cells K1.cells 27)) ∧ ListOk (fun b => wdm.heap.size ≤ b) (w1.alloc (.cells K1.cells 27)) v2 ([] : List (List Int)) := ⟨HBZ, heap_alloc_new _ _, HBA.out, ((hO.listOk no_ok (Nat.le_trans (show 0 ≤ 2 by decide) (by unfold maxLen; decide))).mono (fun b q => Nat.le_trans HSZ0 q)).keep (kept_below ((Below.refl _ _).alloc (Nat.le_refl _) _))⟩
                        go_wp2_with fail
                        go_meet
                        case rel => exact ⟨_, _, rfl, rfl, rfl, HT⟩
                      · intro Kq hKq
                        simp only [List.getElem_toArray, List.getElem_cons_succ, List.getElem_cons_zero]
                        rw [if_pos (by rfl)]
                        have HTA : wdm.heap.size ≤ wdm.heap.size := hHeld.size
                        refine wp_op_value (.pointer (some ⟨wdm.heap.size, 0, none⟩)) (wdm.drew.alloc (.cells #[.int .u8 0, .int .u8 0, .int .u8 0, .int .u8 0, .int .u8 0, .int .u8 0, .int .u8 0, .int .u8 0, .int .u8 0, .int .u8 0, .int .u8 0, .int .u8 0, .int .u8 0, .int .i64 0, .int .i64 0, .int .i64 0, .int .i64 0] 27)) (by as_aux_lemma => kernel_rfl) ?_
                        refine hKq.out _ _ ((hHeld.alloc hHeld.size _)) (fun hHeld2 => ?_)
                        clear hKq Kq hHeld
                        have hHeld := hHeld2
                        clear hHeld2
                        simp only [Act.put, List.setIfInBounds_toArray, List.set_cons_zero, List.set_cons_succ]
                        refine wpAnyH_ready (rs := [5]) (by kernel_rfl) (by simp) ?_
                        refine AllReadyH.cons (i := 5) (rs := []) rfl ?_ AllReadyH.nil
                        intro Kq hKq
                        simp only [List.getElem_toArray, List.getElem_cons_succ, List.getElem_cons_zero]
                        rw [if_pos (by rfl)]
                        have HSZ0 : wdm.heap.size ≤ ((wdm.drew.alloc (.cells #[.int .u8 0, .int .u8 0, .int .u8 0, .int .u8 0, .int .u8 0, .int .u8 0, .int .u8 0, .int .u8 0, .int .u8 0, .int .u8 0, .int .u8 0, .int .u8 0, .int .u8 0, .int .i64 0, .int .i64 0, .int .i64 0, .int .i64 0] 27))).heap.size := hHeld.size
                        refine wp_call_fn 20 #[.agg K.cells, mv2, .int .i64 now] (_) (by as_aux_lemma => kernel_rfl) (CH2.out _ _ (MsgIn.below HM2.out hHeld)) ?_
                        rintro e w1 ⟨v2, rfl, hO, hb⟩
                        refine ⟨.tuple #[.agg K1.cells, v2, .int .i64 0], rfl, ?_⟩
                        have HB1 := Lib.hid (hHeld.trans (hb.mono HSZ0))
                        have HBZ : wdm.heap.size ≤ w1.heap.size := HB1.out.size
                        refine hKq.out _ _ (HB1.out) (fun hHeld2 => ?_)
                        clear hKq Kq hHeld
                        have hHeld := hHeld2
                        clear hHeld2
                        simp only [Act.put, List.setIfInBounds_toArray, List.set_cons_zero, List.set_cons_succ]
                        have HRT := Lib.hid (row_below hb (heap_alloc_new _ _))
                        have HTL : wdm.heap.size < ((wdm.drew.alloc (.cells #[.int .u8 0, .int .u8 0, .int .u8 0, .int .u8 0, .int .u8 0, .int .u8 0, .int .u8 0, .int .u8 0, .int .u8 0, .int .u8 0, .int .u8 0, .int .u8 0, .int .u8 0, .int .i64 0, .int .i64 0, .int .i64 0, .int .i64 0] 27))).heap.size := lt_alloc _ _
                        refine wpAnyH_take (i := 6) (v := .tuple #[.agg K1.cells, v2, .int .i64 0]) rfl (by kernel_rfl) (by kernel_rfl) (by kernel_rfl) (fun _ _ _ h => h) (Or.inl ⟨by rfl, by intro w hSw; clear hHeld hSw; go_simp; (try rfl)⟩) (by assumption) ?_
                        simp only [Act.put, List.setIfInBounds_toArray, List.set_cons_zero, List.set_cons_succ, List.getElem_toArray, List.getElem_cons_succ, List.getElem_cons_zero]
                        refine wpAnyH_take (i := 7) (v := .agg K1.cells) rfl (by kernel_rfl) (by kernel_rfl) (by kernel_rfl) (fun _ _ _ h => h) (Or.inl ⟨by rfl, by intro w hSw; clear hHeld hSw; go_simp; (try rfl)⟩) (by assumption) ?_
                        simp only [Act.put, List.setIfInBounds_toArray, List.set_cons_zero, List.set_cons_succ, List.getElem_toArray, List.getElem_cons_succ, List.getElem_cons_zero]
                        refine wpAnyH_take (i := 8) (v := v2) rfl (by kernel_rfl) (by kernel_rfl) (by kernel_rfl) (fun _ _ _ h => h) (Or.inl ⟨by rfl, by intro w hSw; clear hHeld hSw; go_simp; (try rfl)⟩) (by assumption) ?_
                        simp only [Act.put, List.setIfInBounds_toArray, List.set_cons_zero, List.set_cons_succ, List.getElem_toArray, List.getElem_cons_succ, List.getElem_cons_zero]
                        refine wpAnyH_take (i := 9) (v := .int .i64 0) rfl (by kernel_rfl) (by kernel_rfl) (by kernel_rfl) (fun _ _ _ h => h) (Or.inl ⟨by rfl, by intro w hSw; clear hHeld hSw; go_simp; (try rfl)⟩) (by assumption) ?_
                        simp only [Act.put, List.setIfInBounds_toArray, List.set_cons_zero, List.set_cons_succ, List.getElem_toArray, List.getElem_cons_succ, List.getElem_cons_zero]
                        have HBA := Lib.hid (show Below wdm.heap.size wdm (w1.setRow (wdm.heap.size) K1.cells) from below_setRow' HB1.out HTA _)
                        refine wpAnyH_ready (rs := [11]) (by kernel_rfl) (by simp) ?_
                        refine AllReadyH.cons (i := 11) (rs := []) rfl ?_ AllReadyH.nil
                        intro Kq hKq
                        simp only [List.getElem_toArray, List.getElem_cons_succ, List.getElem_cons_zero]
                        rw [if_pos (by rfl)]
                        refine wp_store_row 27 (.tmp 25) (.tmp 138) (by rfl) (wdm.heap.size) K1.cells (by as_aux_lemma => kernel_rfl) (by as_aux_lemma => kernel_rfl) 27 #[.int .u8 0, .int .u8 0, .int .u8 0, .int .u8 0, .int .u8 0, .int .u8 0, .int .u8 0, .int .u8 0, .int .u8 0, .int .u8 0, .int .u8 0, .int .u8 0, .int .u8 0, .int .i64 0, .int .i64 0, .int .i64 0, .int .i64 0] HRT.out HIK1.out (by as_aux_lemma => kernel_rfl) (one_cells _) ?_
                        refine hKq.out _ _ (HBA.out) (fun hHeld2 => ?_)
                        clear hKq Kq hHeld
                        have hHeld := hHeld2
                        clear hHeld2
                        simp only [Act.put, List.setIfInBounds_toArray, List.set_cons_zero, List.set_cons_succ]
                        refine wpAnyH_take (i := 12) (v := v2) rfl (by kernel_rfl) (by kernel_rfl) (by kernel_rfl) (fun _ _ _ h => h) (Or.inl ⟨by rfl, by intro w hSw; clear hHeld hSw; go_simp; (try rfl)⟩) (by assumption) ?_
                        simp only [Act.put, List.setIfInBounds_toArray, List.set_cons_zero, List.set_cons_succ, List.getElem_toArray, List.getElem_cons_succ, List.getElem_cons_zero]
                        refine wpAnyH_take (i := 13) (v := .int .i64 0) rfl (by kernel_rfl) (by kernel_rfl) (by kernel_rfl) (fun _ _ _ h => h) (Or.inl ⟨by rfl, by intro w hSw; clear hHeld hSw; go_simp; (try rfl)⟩) (by assumption) ?_
                        simp only [Act.put, List.setIfInBounds_toArray, List.set_cons_zero, List.set_cons_succ, List.getElem_toArray, List.getElem_cons_succ, List.getElem_cons_zero]
                        clear hHeld
                        refine wpAnyH_done (by kernel_rfl) ?_ _
                        have HT : wdm.heap.size ≤ wdm.heap.size ∧ (w1.setRow (wdm.heap.size) K1.cells).heap[wdm.heap.size]? = some (.cells K1.cells 27) ∧ Below wdm.heap.size wdm (w1.setRow (wdm.heap.size) K1.cells) ∧ ListOk (fun b => wdm.heap.size ≤ b) (w1.setRow (wdm.heap.size) K1.cells) v2 ([] : List (List Int)) := ⟨HTA, setRow_heap _ _ _ _ _ _ HRT.out, HBA.out, ((hO.setRow (wdm.heap.size) HTL K1.cells).listOk no_ok (Nat.le_trans (show 0 ≤ 2 by decide) (by unfold maxLen; decide))).mono (fun b q => Nat.le_trans HSZ0 q)⟩
                        go_wp2_with fail
                        go_meet
                        case rel => exact ⟨_, _, rfl, rfl, rfl, HT⟩
                  case rest =>
                    obtain ⟨T4, v4, rfl, rfl, rfl, hT4, r4, hb, lx⟩ := hcut
                    obtain ⟨wem, hwe⟩ : ∃ q, q = wc := ⟨_, rfl⟩
                    subst hwe
                    obtain ⟨ao4, c4, e4⟩ := nil_ok lx
                    subst e4
                    have R4 := Lib.hid r4
                    have RCe := Lib.hid (row_below hb RCd.out)
                    have RDe := Lib.hid (row_below hb RDd.out)
                    have HBe := Lib.hid (HBd.out.trans (hb.mono HBd.out.size))
                    clear lx r4 hb xd
                    go_wp2_with (first
                      | (with_reducible refine wpList_load_row rfl 27 (.tmp 25) rfl T4 rfl 27 K1.cells (0, 0) _ R4.out Try.underlying27 rfl HIK1.out ?_)
                      | ((with_reducible refine wpList_store_rowTo rfl 27 (.tmp 20) (.tmp 148) rfl rfl T1 K1.cells ?_ ?_ 27 K.cells RCe.out HIK1.out rfl (one_cells _) ?_); (as_aux_lemma => kernel_rfl); (as_aux_lemma => kernel_rfl)))
                    go_meet
                    case rel => exact ⟨rfl, setRow_heap _ _ _ _ _ _ RCe.out, (setRow_other _ _ _ _ hne.symm).trans RDe.out, below_setRow' HBe.out hT1 _⟩
              · have hMb : ((i : Int) == mine) = false := by simpa using hM
                obtain ⟨rfl, rfl⟩ := E1.out hM
                go_wp2_with fail
                go_meet
                case rel => exact ⟨rfl, RC.out, RD.out, HBA.out⟩
          case rest =>
            as_aux_lemma =>
              obtain ⟨rfl, r1, r2, hb⟩ := hcut
              obtain ⟨wf, hwe⟩ : ∃ q, q = wc := ⟨_, rfl⟩
              subst hwe
              have RC := Lib.hid r1
              have RD := Lib.hid r2
              have HBA := Lib.hid hb
              clear r1 r2 hb
              have hKL : K1.By ∧ L1.By := by
                by_cases h : (i : Int) = mine
                · obtain ⟨m0, m1, _, _, _, hp, hq⟩ := D1.out h; exact ⟨by have h := fine_handle HK.out m1 now; rw [hq] at h; exact h.1, by have h := fine_handle HL.out m0 now; rw [hp] at h; exact h.1⟩
                · obtain ⟨h1, h2⟩ := E1.out h; rw [h1, h2]; exact ⟨HK.out, HL.out⟩
              have HK1 := Lib.hid hKL.1
              have HL1 := Lib.hid hKL.2
              clear hKL D1 E1 HIK HIL
              go_upto_if 151 with fail
              go_cut [20] (fun t20 wx => t20 = .pointer (some ⟨T1, 0, none⟩) ∧ wx.heap[T1]? = some (.cells K2.cells 27) ∧ wx.heap[T2]? = some (.cells L2.cells 27) ∧ Below wr.heap.size wr wx)
              case first =>
                as_aux_lemma =>
                  by_cases hM : (i : Int) = his
                  · have hMb : ((i : Int) == his) = true := by simpa using hM
                    obtain ⟨m0, m1, rfl, hm0, hm1, hp, hq⟩ := D2.out hM
                    have hL1 : K2.By := by have h := fine_handle HK1.out m0 now; rw [hp] at h; exact h.1
                    have HIK1 := Lib.hid (link_info2 L2)
                    have HIL1 := Lib.hid (link_info2 K2)
                    have HIKn := Lib.hid (link_info2 L1)
                    have HILn := Lib.hid (link_info2 K1)
                    have CH1 := Lib.hid (fun (W : World) (mv : Value) (hmv : MsgIn W mv m0) => ret_of hp (handle_any K1 HK1.out now mv m0 W hmv))
                    have CH2 := Lib.hid (fun (W : World) (mv : Value) (hmv : MsgIn W mv m1) => ret_of hq (handle_any L1 HL1.out now mv m1 W hmv))
                    have FM1 := Lib.hid (one_ok hm1)
                    clear hp hq hm0 hm1
                    obtain ⟨gX, oX, cX2, mv, eX, hcap, hcX, hmX⟩ := head_in LY.out
                    have eX2 := eX
                    simp only [List.length_cons, List.length_nil, Value.slice.injEq] at eX2
                    obtain ⟨rfl, _, rfl⟩ := eX2
                    clear eX
                    have xc : wf.cell? ⟨gX, oX, none⟩ = some mv := below_kept HBA.out hcX
                    have HMX := Lib.hid (hmX.below HBA.out)
                    clear hcX hmX
                    have l2 : T2 < wf.heap.size := row_lt RD.out
                    have l1 : T1 < wf.heap.size := row_lt RC.out
                    have RLW := Lib.hid (show wf.heap[T1]? = some (.cells K1.cells 27) from RC.out)
                    go_upto_region 26 with fail
                    go_cut [28, 29, 30] (fun t10 t11 t12 wx => ∃ T v2, t10 = .pointer (some ⟨T, 0, none⟩) ∧ t11 = v2 ∧ t12 = .int .i64 0 ∧ wf.heap.size ≤ T ∧ wx.heap[T]? = some (.cells K2.cells 27) ∧ Below wf.heap.size wf wx ∧ ListOk (fun b => wf.heap.size ≤ b) wx v2 [m1])
                    case first =>
                      as_aux_lemma =>
                        refine wp_region_held_drew (S := fun w' => Below wf.heap.size wf w') (by kernel_rfl) ((Below.refl _ _).drew) (fun hHeld => ?_)
                        refine wpAnyH_take (i := 0) (v := .agg K1.cells) rfl (by kernel_rfl) (by kernel_rfl) (by kernel_rfl) (fun _ _ _ h => h) (yields_sub (by rfl) 27 _ rfl (T1) 0 (by rfl) K1.cells _ (fun w' h' => range_row (row_below h' RLW.out)) Try.underlying27 rfl HILn.out) (by assumption) ?_
                        simp only [Act.put, List.setIfInBounds_toArray, List.set_cons_zero, List.set_cons_succ, List.getElem_toArray, List.getElem_cons_succ, List.getElem_cons_zero]
                        refine wpAnyH_take (i := 1) (v := .slice (some ⟨gX, oX, none⟩) 1 cY) rfl (by kernel_rfl) (by kernel_rfl) (by kernel_rfl) (fun _ _ _ h => h) (Or.inl ⟨by rfl, by intro w hSw; clear hHeld hSw; go_simp; (try rfl)⟩) (by assumption) ?_
                        simp only [Act.put, List.setIfInBounds_toArray, List.set_cons_zero, List.set_cons_succ, List.getElem_toArray, List.getElem_cons_succ, List.getElem_cons_zero]
                        refine wpAnyH_take (i := 2) (v := .pointer (some ⟨gX, oX, none⟩)) rfl (by kernel_rfl) (by kernel_rfl) (by kernel_rfl) (fun _ _ _ h => h) (Or.inl ⟨by rfl, by intro w hSw; clear hHeld hSw; go_simp; (try rfl)⟩) (by assumption) ?_
                        simp only [Act.put, List.setIfInBounds_toArray, List.set_cons_zero, List.set_cons_succ, List.getElem_toArray, List.getElem_cons_succ, List.getElem_cons_zero]
                        refine wpAnyH_take (i := 3) (v := mv) rfl (by kernel_rfl) (by kernel_rfl) (by kernel_rfl) (fun _ _ _ h => h) (Or.inl ⟨by rfl, by intro w hSw; have tq := below_kept hSw xc; clear hHeld hSw; go_simp⟩) (by assumption) ?_
                        simp only [Act.put, List.setIfInBounds_toArray, List.set_cons_zero, List.set_cons_succ, List.getElem_toArray, List.getElem_cons_succ, List.getElem_cons_zero]
                        refine wpAnyH_take (i := 4) (v := .int .i64 now) rfl (by kernel_rfl) (by kernel_rfl) (by kernel_rfl) (fun _ _ _ h => h) (Or.inl ⟨by rfl, by intro w hSw; clear hHeld hSw; go_simp; (try rfl)⟩) (by assumption) ?_
                        simp only [Act.put, List.setIfInBounds_toArray, List.set_cons_zero, List.set_cons_succ, List.getElem_toArray, List.getElem_cons_succ, List.getElem_cons_zero]
                        refine wpAnyH_ready (rs := [5, 10]) (by kernel_rfl) (by simp) ?_
                        refine AllReadyH.cons (i := 5) (rs := [10]) rfl ?_ (AllReadyH.cons (i := 10) (rs := []) rfl ?_ AllReadyH.nil)
                        · intro Kq hKq
                          simp only [List.getElem_toArray, List.getElem_cons_succ, List.getElem_cons_zero]
                          rw [if_pos (by rfl)]
                          have HSZ0 : wf.heap.size ≤ (wf.drew).heap.size := hHeld.size
                          refine wp_call_fn 20 #[.agg K1.cells, mv, .int .i64 now] (_) (by as_aux_lemma => kernel_rfl) (CH1.out _ _ (MsgIn.below HMX.out hHeld)) ?_
                          rintro e w1 ⟨v2, rfl, hO, hb⟩
                          refine ⟨.tuple #[.agg K2.cells, v2, .int .i64 0], rfl, ?_⟩
                          have HB1 := Lib.hid (hHeld.trans (hb.mono HSZ0))
                          have HBZ : wf.heap.size ≤ w1.heap.size := HB1.out.size
                          refine hKq.out _ _ (HB1.out) (fun hHeld2 => ?_)
                          clear hKq Kq hHeld
                          have hHeld := hHeld2
                          clear hHeld2
                          simp only [Act.put, List.setIfInBounds_toArray, List.set_cons_zero, List.set_cons_succ]
                          refine wpAnyH_take (i := 6) (v := .tuple #[.agg K2.cells, v2, .int .i64 0]) rfl (by kernel_rfl) (by kernel_rfl) (by kernel_rfl) (fun _ _ _ h => h) (Or.inl ⟨by rfl, by intro w hSw; clear hHeld hSw; go_simp; (try rfl)⟩) (by assumption) ?_
                          simp only [Act.put, List.setIfInBounds_toArray, List.set_cons_zero, List.set_cons_succ, List.getElem_toArray, List.getElem_cons_succ, List.getElem_cons_zero]
                          refine wpAnyH_take (i := 7) (v := .agg K2.cells) rfl (by kernel_rfl) (by kernel_rfl) (by kernel_rfl) (fun _ _ _ h => h) (Or.inl ⟨by rfl, by intro w hSw; clear hHeld hSw; go_simp; (try rfl)⟩) (by assumption) ?_
                          simp only [Act.put, List.setIfInBounds_toArray, List.set_cons_zero, List.set_cons_succ, List.getElem_toArray, List.getElem_cons_succ, List.getElem_cons_zero]
                          refine wpAnyH_take (i := 8) (v := v2) rfl (by kernel_rfl) (by kernel_rfl) (by kernel_rfl) (fun _ _ _ h => h) (Or.inl ⟨by rfl, by intro w hSw; clear hHeld hSw; go_simp; (try rfl)⟩) (by assumption) ?_
                          simp only [Act.put, List.setIfInBounds_toArray, List.set_cons_zero, List.set_cons_succ, List.getElem_toArray, List.getElem_cons_succ, List.getElem_cons_zero]
                          refine wpAnyH_take (i := 9) (v := .int .i64 0) rfl (by kernel_rfl) (by kernel_rfl) (by kernel_rfl) (fun _ _ _ h => h) (Or.inl ⟨by rfl, by intro w hSw; clear hHeld hSw; go_simp; (try rfl)⟩) (by assumption) ?_
                          simp only [Act.put, List.setIfInBounds_toArray, List.set_cons_zero, List.set_cons_succ, List.getElem_toArray, List.getElem_cons_succ, List.getElem_cons_zero]
                          refine wpAnyH_ready (rs := [10]) (by kernel_rfl) (by simp) ?_
                          refine AllReadyH.cons (i := 10) (rs := []) rfl ?_ AllReadyH.nil
                          intro Kq hKq
                          simp only [List.getElem_toArray, List.getElem_cons_succ, List.getElem_cons_zero]
                          rw [if_pos (by rfl)]
                          have HTA : wf.heap.size ≤ w1.heap.size := hHeld.size
                          refine wp_op_value (.pointer (some ⟨w1.heap.size, 0, none⟩)) (w1.alloc (.cells #[.int .u8 0, .int .u8 0, .int .u8 0, .int .u8 0, .int .u8 0, .int .u8 0, .int .u8 0, .int .u8 0, .int .u8 0, .int .u8 0, .int .u8 0, .int .u8 0, .int .u8 0, .int .i64 0, .int .i64 0, .int .i64 0, .int .i64 0] 27)) (by as_aux_lemma => kernel_rfl) ?_
                          refine hKq.out _ _ ((hHeld.alloc hHeld.size _)) (fun hHeld2 => ?_)
                          clear hKq Kq hHeld
                          have hHeld := hHeld2
                          clear hHeld2
                          simp only [Act.put, List.setIfInBounds_toArray, List.set_cons_zero, List.set_cons_succ]
                          have HBA := Lib.hid (show Below wf.heap.size wf (w1.alloc (.cells K2.cells 27)) from HB1.out.alloc HBZ _)
                          refine wpAnyH_ready (rs := [11]) (by kernel_rfl) (by simp) ?_
                          refine AllReadyH.cons (i := 11) (rs := []) rfl ?_ AllReadyH.nil
                          intro Kq hKq
                          simp only [List.getElem_toArray, List.getElem_cons_succ, List.getElem_cons_zero]
                          rw [if_pos (by rfl)]
                          refine wp_store_row 27 (.tmp 28) (.tmp 159) (by rfl) (w1.heap.size) K2.cells (by as_aux_lemma => kernel_rfl) (by as_aux_lemma => kernel_rfl) 27 #[.int .u8 0, .int .u8 0, .int .u8 0, .int .u8 0, .int .u8 0, .int .u8 0, .int .u8 0, .int .u8 0, .int .u8 0, .int .u8 0, .int .u8 0, .int .u8 0, .int .u8 0, .int .i64 0, .int .i64 0, .int .i64 0, .int .i64 0] (heap_alloc_new _ _) HIL1.out (by as_aux_lemma => kernel_rfl) (one_cells _) ?_
                          rw [setRow_alloc]
                          refine hKq.out _ _ (HBA.out) (fun hHeld2 => ?_)
                          clear hKq Kq hHeld
                          have hHeld := hHeld2
                          clear hHeld2
                          simp only [Act.put, List.setIfInBounds_toArray, List.set_cons_zero, List.set_cons_succ]
                          refine wpAnyH_take (i := 12) (v := v2) rfl (by kernel_rfl) (by kernel_rfl) (by kernel_rfl) (fun _ _ _ h => h) (Or.inl ⟨by rfl, by intro w hSw; clear hHeld hSw; go_simp; (try rfl)⟩) (by assumption) ?_
                          simp only [Act.put, List.setIfInBounds_toArray, List.set_cons_zero, List.set_cons_succ, List.getElem_toArray, List.getElem_cons_succ, List.getElem_cons_zero]
                          refine wpAnyH_take (i := 13) (v := .int .i64 0) rfl (by kernel_rfl) (by kernel_rfl) (by kernel_rfl) (fun _ _ _ h => h) (Or.inl ⟨by rfl, by intro w hSw; clear hHeld hSw; go_simp; (try rfl)⟩) (by assumption) ?_
                          simp only [Act.put, List.setIfInBounds_toArray, List.set_cons_zero, List.set_cons_succ, List.getElem_toArray, List.getElem_cons_succ, List.getElem_cons_zero]
                          clear hHeld
                          refine wpAnyH_done (by kernel_rfl) ?_ _
                          have HT : wf.heap.size ≤ w1.heap.size ∧ (w1.alloc (.cells K2.cells 27)).heap[w1.heap.size]? = some (.cells K2.cells 27) ∧ Below wf.heap.size wf (w1.alloc (.cells K2.cells 27)) ∧ ListOk (fun b => wf.heap.size ≤ b) (w1.alloc (.cells K2.cells 27)) v2 [m1] := ⟨HBZ, heap_alloc_new _ _, HBA.out, ((hO.listOk FM1.out (Nat.le_trans (show 1 ≤ 2 by decide) (by unfold maxLen; decide))).mono (fun b q => Nat.le_trans HSZ0 q)).keep (kept_below ((Below.refl _ _).alloc (Nat.le_refl _) _))⟩
                          go_wp2_with fail
                          go_meet
                          case rel => exact ⟨_, _, rfl, rfl, rfl, HT⟩
                        · intro Kq hKq
                          simp only [List.getElem_toArray, List.getElem_cons_succ, List.getElem_cons_zero]
                          rw [if_pos (by rfl)]
                          have HTA : wf.heap.size ≤ wf.heap.size := hHeld.size
                          refine wp_op_value (.pointer (some ⟨wf.heap.size, 0, none⟩)) (wf.drew.alloc (.cells #[.int .u8 0, .int .u8 0, .int .u8 0, .int .u8 0, .int .u8 0, .int .u8 0, .int .u8 0, .int .u8 0, .int .u8 0, .int .u8 0, .int .u8 0, .int .u8 0, .int .u8 0, .int .i64 0, .int .i64 0, .int .i64 0, .int .i64 0] 27)) (by as_aux_lemma => kernel_rfl) ?_
                          refine hKq.out _ _ ((hHeld.alloc hHeld.size _)) (fun hHeld2 => ?_)
                          clear hKq Kq hHeld
                          have hHeld := hHeld2
                          clear hHeld2
                          simp only [Act.put, List.setIfInBounds_toArray, List.set_cons_zero, List.set_cons_succ]
                          refine wpAnyH_ready (rs := [5]) (by kernel_rfl) (by simp) ?_
                          refine AllReadyH.cons (i := 5) (rs := []) rfl ?_ AllReadyH.nil
                          intro Kq hKq
                          simp only [List.getElem_toArray, List.getElem_cons_succ, List.getElem_cons_zero]
                          rw [if_pos (by rfl)]
                          have HSZ0 : wf.heap.size ≤ ((wf.drew.alloc (.cells #[.int .u8 0, .int .u8 0, .int .u8 0, .int .u8 0, .int .u8 0, .int .u8 0, .int .u8 0, .int .u8 0, .int .u8 0, .int .u8 0, .int .u8 0, .int .u8 0, .int .u8 0, .int .i64 0, .int .i64 0, .int .i64 0, .int .i64 0] 27))).heap.size := hHeld.size
                          refine wp_call_fn 20 #[.agg K1.cells, mv, .int .i64 now] (_) (by as_aux_lemma => kernel_rfl) (CH1.out _ _ (MsgIn.below HMX.out hHeld)) ?_
                          rintro e w1 ⟨v2, rfl, hO, hb⟩
                          refine ⟨.tuple #[.agg K2.cells, v2, .int .i64 0], rfl, ?_⟩
                          have HB1 := Lib.hid (hHeld.trans (hb.mono HSZ0))
                          have HBZ : wf.heap.size ≤ w1.heap.size := HB1.out.size
                          refine hKq.out _ _ (HB1.out) (fun hHeld2 => ?_)
                          clear hKq Kq hHeld
                          have hHeld := hHeld2
                          clear hHeld2
                          simp only [Act.put, List.setIfInBounds_toArray, List.set_cons_zero, List.set_cons_succ]
                          have HRT := Lib.hid (row_below hb (heap_alloc_new _ _))
                          have HTL : wf.heap.size < ((wf.drew.alloc (.cells #[.int .u8 0, .int .u8 0, .int .u8 0, .int .u8 0, .int .u8 0, .int .u8 0, .int .u8 0, .int .u8 0, .int .u8 0, .int .u8 0, .int .u8 0, .int .u8 0, .int .u8 0, .int .i64 0, .int .i64 0, .int .i64 0, .int .i64 0] 27))).heap.size := lt_alloc _ _
                          refine wpAnyH_take (i := 6) (v := .tuple #[.agg K2.cells, v2, .int .i64 0]) rfl (by kernel_rfl) (by kernel_rfl) (by kernel_rfl) (fun _ _ _ h => h) (Or.inl ⟨by rfl, by intro w hSw; clear hHeld hSw; go_simp; (try rfl)⟩) (by assumption) ?_
                          simp only [Act.put, List.setIfInBounds_toArray, List.set_cons_zero, List.set_cons_succ, List.getElem_toArray, List.getElem_cons_succ, List.getElem_cons_zero]
                          refine wpAnyH_take (i := 7) (v := .agg K2.cells) rfl (by kernel_rfl) (by kernel_rfl) (by kernel_rfl) (fun _ _ _ h => h) (Or.inl ⟨by rfl, by intro w hSw; clear hHeld hSw; go_simp; (try rfl)⟩) (by assumption) ?_
                          simp only [Act.put, List.setIfInBounds_toArray, List.set_cons_zero, List.set_cons_succ, List.getElem_toArray, List.getElem_cons_succ, List.getElem_cons_zero]
                          refine wpAnyH_take (i := 8) (v := v2) rfl (by kernel_rfl) (by kernel_rfl) (by kernel_rfl) (fun _ _ _ h => h) (Or.inl ⟨by rfl, by intro w hSw; clear hHeld hSw; go_simp; (try rfl)⟩) (by assumption) ?_
                          simp only [Act.put, List.setIfInBounds_toArray, List.set_cons_zero, List.set_cons_succ, List.getElem_toArray, List.getElem_cons_succ, List.getElem_cons_zero]
                          refine wpAnyH_take (i := 9) (v := .int .i64 0) rfl (by kernel_rfl) (by kernel_rfl) (by kernel_rfl) (fun _ _ _ h => h) (Or.inl ⟨by rfl, by intro w hSw; clear hHeld hSw; go_simp; (try rfl)⟩) (by assumption) ?_
                          simp only [Act.put, List.setIfInBounds_toArray, List.set_cons_zero, List.set_cons_succ, List.getElem_toArray, List.getElem_cons_succ, List.getElem_cons_zero]
                          have HBA := Lib.hid (show Below wf.heap.size wf (w1.setRow (wf.heap.size) K2.cells) from below_setRow' HB1.out HTA _)
                          refine wpAnyH_ready (rs := [11]) (by kernel_rfl) (by simp) ?_
                          refine AllReadyH.cons (i := 11) (rs := []) rfl ?_ AllReadyH.nil
                          intro Kq hKq
                          simp only [List.getElem_toArray, List.getElem_cons_succ, List.getElem_cons_zero]
                          rw [if_pos (by rfl)]
                          refine wp_store_row 27 (.tmp 28) (.tmp 159) (by rfl) (wf.heap.size) K2.cells (by as_aux_lemma => kernel_rfl) (by as_aux_lemma => kernel_rfl) 27 #[.int .u8 0, .int .u8 0, .int .u8 0, .int .u8 0, .int .u8 0, .int .u8 0, .int .u8 0, .int .u8 0, .int .u8 0, .int .u8 0, .int .u8 0, .int .u8 0, .int .u8 0, .int .i64 0, .int .i64 0, .int .i64 0, .int .i64 0] HRT.out HIL1.out (by as_aux_lemma => kernel_rfl) (one_cells _) ?_
                          refine hKq.out _ _ (HBA.out) (fun hHeld2 => ?_)
                          clear hKq Kq hHeld
                          have hHeld := hHeld2
                          clear hHeld2
                          simp only [Act.put, List.setIfInBounds_toArray, List.set_cons_zero, List.set_cons_succ]
                          refine wpAnyH_take (i := 12) (v := v2) rfl (by kernel_rfl) (by kernel_rfl) (by kernel_rfl) (fun _ _ _ h => h) (Or.inl ⟨by rfl, by intro w hSw; clear hHeld hSw; go_simp; (try rfl)⟩) (by assumption) ?_
                          simp only [Act.put, List.setIfInBounds_toArray, List.set_cons_zero, List.set_cons_succ, List.getElem_toArray, List.getElem_cons_succ, List.getElem_cons_zero]
                          refine wpAnyH_take (i := 13) (v := .int .i64 0) rfl (by kernel_rfl) (by kernel_rfl) (by kernel_rfl) (fun _ _ _ h => h) (Or.inl ⟨by rfl, by intro w hSw; clear hHeld hSw; go_simp; (try rfl)⟩) (by assumption) ?_
                          simp only [Act.put, List.setIfInBounds_toArray, List.set_cons_zero, List.set_cons_succ, List.getElem_toArray, List.getElem_cons_succ, List.getElem_cons_zero]
                          clear hHeld
                          refine wpAnyH_done (by kernel_rfl) ?_ _
                          have HT : wf.heap.size ≤ wf.heap.size ∧ (w1.setRow (wf.heap.size) K2.cells).heap[wf.heap.size]? = some (.cells K2.cells 27) ∧ Below wf.heap.size wf (w1.setRow (wf.heap.size) K2.cells) ∧ ListOk (fun b => wf.heap.size ≤ b) (w1.setRow (wf.heap.size) K2.cells) v2 [m1] := ⟨HTA, setRow_heap _ _ _ _ _ _ HRT.out, HBA.out, ((hO.setRow (wf.heap.size) HTL K2.cells).listOk FM1.out (Nat.le_trans (show 1 ≤ 2 by decide) (by unfold maxLen; decide))).mono (fun b q => Nat.le_trans HSZ0 q)⟩
                          go_wp2_with fail
                          go_meet
                          case rel => exact ⟨_, _, rfl, rfl, rfl, HT⟩
                    case rest =>
                      obtain ⟨T3, v2, rfl, rfl, rfl, hT3, r3, hb, lx⟩ := hcut
                      obtain ⟨wbh, hwe⟩ : ∃ q, q = wc := ⟨_, rfl⟩
                      subst hwe
                      obtain ⟨g2, o2, c2, mv2, e2, hcap2, hok2, hc2, hm2⟩ := head_ok lx
                      subst e2
                      have R3 := Lib.hid r3
                      have RCb := Lib.hid (row_below hb RC.out)
                      have RDb := Lib.hid (row_below hb RD.out)
                      have HBb := Lib.hid (HBA.out.trans (hb.mono HBA.out.size))
                      clear lx r3 hb xc HMX
                      go_upto_region 29 with fail
                      have xd := hc2
                      have HM2 := Lib.hid hm2.2.1
                      clear hc2 hm2
                      have RKW := Lib.hid (show wbh.heap[T2]? = some (.cells L1.cells 27) from RDb.out)
                      have l3 : T3 < wbh.heap.size := row_lt R3.out
                      have l1b : T1 < wbh.heap.size := row_lt RCb.out
                      have l2b : T2 < wbh.heap.size := row_lt RDb.out
                      go_cut [31, 32, 33] (fun t10 t11 t12 wx => ∃ T v2, t10 = .pointer (some ⟨T, 0, none⟩) ∧ t11 = v2 ∧ t12 = .int .i64 0 ∧ wbh.heap.size ≤ T ∧ wx.heap[T]? = some (.cells L2.cells 27) ∧ Below wbh.heap.size wbh wx ∧ ListOk (fun b => wbh.heap.size ≤ b) wx v2 ([] : List (List Int)))
                      case first =>
                        as_aux_lemma =>
                          refine wp_region_held_drew (S := fun w' => Below wbh.heap.size wbh w') (by kernel_rfl) ((Below.refl _ _).drew) (fun hHeld => ?_)
                          refine wpAnyH_take (i := 0) (v := .agg L1.cells) rfl (by kernel_rfl) (by kernel_rfl) (by kernel_rfl) (fun _ _ _ h => h) (yields_sub (by rfl) 27 _ rfl (T2) 0 (by rfl) L1.cells _ (fun w' h' => range_row (row_below h' RKW.out)) Try.underlying27 rfl HIKn.out) (by assumption) ?_
                          simp only [Act.put, List.setIfInBounds_toArray, List.set_cons_zero, List.set_cons_succ, List.getElem_toArray, List.getElem_cons_succ, List.getElem_cons_zero]
                          refine wpAnyH_take (i := 1) (v := .slice (some ⟨g2, o2, none⟩) 1 c2) rfl (by kernel_rfl) (by kernel_rfl) (by kernel_rfl) (fun _ _ _ h => h) (Or.inl ⟨by rfl, by intro w hSw; clear hHeld hSw; go_simp; (try rfl)⟩) (by assumption) ?_
                          simp only [Act.put, List.setIfInBounds_toArray, List.set_cons_zero, List.set_cons_succ, List.getElem_toArray, List.getElem_cons_succ, List.getElem_cons_zero]
                          refine wpAnyH_take (i := 2) (v := .pointer (some ⟨g2, o2, none⟩)) rfl (by kernel_rfl) (by kernel_rfl) (by kernel_rfl) (fun _ _ _ h => h) (Or.inl ⟨by rfl, by intro w hSw; clear hHeld hSw; go_simp; (try rfl)⟩) (by assumption) ?_
                          simp only [Act.put, List.setIfInBounds_toArray, List.set_cons_zero, List.set_cons_succ, List.getElem_toArray, List.getElem_cons_succ, List.getElem_cons_zero]
                          refine wpAnyH_take (i := 3) (v := mv2) rfl (by kernel_rfl) (by kernel_rfl) (by kernel_rfl) (fun _ _ _ h => h) (Or.inl ⟨by rfl, by intro w hSw; have tq := below_kept hSw xd; clear hHeld hSw; go_simp⟩) (by assumption) ?_
                          simp only [Act.put, List.setIfInBounds_toArray, List.set_cons_zero, List.set_cons_succ, List.getElem_toArray, List.getElem_cons_succ, List.getElem_cons_zero]
                          refine wpAnyH_take (i := 4) (v := .int .i64 now) rfl (by kernel_rfl) (by kernel_rfl) (by kernel_rfl) (fun _ _ _ h => h) (Or.inl ⟨by rfl, by intro w hSw; clear hHeld hSw; go_simp; (try rfl)⟩) (by assumption) ?_
                          simp only [Act.put, List.setIfInBounds_toArray, List.set_cons_zero, List.set_cons_succ, List.getElem_toArray, List.getElem_cons_succ, List.getElem_cons_zero]
                          refine wpAnyH_ready (rs := [5, 10]) (by kernel_rfl) (by simp) ?_
                          refine AllReadyH.cons (i := 5) (rs := [10]) rfl ?_ (AllReadyH.cons (i := 10) (rs := []) rfl ?_ AllReadyH.nil)
                          · intro Kq hKq
                            simp only [List.getElem_toArray, List.getElem_cons_succ, List.getElem_cons_zero]
                            rw [if_pos (by rfl)]
                            have HSZ0 : wbh.heap.size ≤ (wbh.drew).heap.size := hHeld.size
                            refine wp_call_fn 20 #[.agg L1.cells, mv2, .int .i64 now] (_) (by as_aux_lemma => kernel_rfl) (CH2.out _ _ (MsgIn.below HM2.out hHeld)) ?_
                            rintro e w1 ⟨v2, rfl, hO, hb⟩
                            refine ⟨.tuple #[.agg L2.cells, v2, .int .i64 0], rfl, ?_⟩
                            have HB1 := Lib.hid (hHeld.trans (hb.mono HSZ0))
                            have HBZ : wbh.heap.size ≤ w1.heap.size := HB1.out.size
                            refine hKq.out _ _ (HB1.out) (fun hHeld2 => ?_)
                            clear hKq Kq hHeld
                            have hHeld := hHeld2
                            clear hHeld2
                            simp only [Act.put, List.setIfInBounds_toArray, List.set_cons_zero, List.set_cons_succ]
                            refine wpAnyH_take (i := 6) (v := .tuple #[.agg L2.cells, v2, .int .i64 0]) rfl (by kernel_rfl) (by kernel_rfl) (by kernel_rfl) (fun _ _ _ h => h) (Or.inl ⟨by rfl, by intro w hSw; clear hHeld hSw; go_simp; (try rfl)⟩) (by assumption) ?_
                            simp only [Act.put, List.setIfInBounds_toArray, List.set_cons_zero, List.set_cons_succ, List.getElem_toArray, List.getElem_cons_succ, List.getElem_cons_zero]
                            refine wpAnyH_take (i := 7) (v := .agg L2.cells) rfl (by kernel_rfl) (by kernel_rfl) (by kernel_rfl) (fun _ _ _ h => h) (Or.inl ⟨by rfl, by intro w hSw; clear hHeld hSw; go_simp; (try rfl)⟩) (by assumption) ?_
                            simp only [Act.put, List.setIfInBounds_toArray, List.set_cons_zero, List.set_cons_succ, List.getElem_toArray, List.getElem_cons_succ, List.getElem_cons_zero]
                            refine wpAnyH_take (i := 8) (v := v2) rfl (by kernel_rfl) (by kernel_rfl) (by kernel_rfl) (fun _ _ _ h => h) (Or.inl ⟨by rfl, by intro w hSw; clear hHeld hSw; go_simp; (try rfl)⟩) (by assumption) ?_
                            simp only [Act.put, List.setIfInBounds_toArray, List.set_cons_zero, List.set_cons_succ, List.getElem_toArray, List.getElem_cons_succ, List.getElem_cons_zero]
                            refine wpAnyH_take (i := 9) (v := .int .i64 0) rfl (by kernel_rfl) (by kernel_rfl) (by kernel_rfl) (fun _ _ _ h => h) (Or.inl ⟨by rfl, by intro w hSw; clear hHeld hSw; go_simp; (try rfl)⟩) (by assumption) ?_
                            simp only [Act.put, List.setIfInBounds_toArray, List.set_cons_zero, List.set_cons_succ, List.getElem_toArray, List.getElem_cons_succ, List.getElem_cons_zero]
                            refine wpAnyH_ready (rs := [10]) (by kernel_rfl) (by simp) ?_
                            refine AllReadyH.cons (i := 10) (rs := []) rfl ?_ AllReadyH.nil
                            intro Kq hKq
                            simp only [List.getElem_toArray, List.getElem_cons_succ, List.getElem_cons_zero]
                            rw [if_pos (by rfl)]
                            have HTA : wbh.heap.size ≤ w1.heap.size := hHeld.size
                            refine wp_op_value (.pointer (some ⟨w1.heap.size, 0, none⟩)) (w1.alloc (.cells #[.int .u8 0, .int .u8 0, .int .u8 0, .int .u8 0, .int .u8 0, .int .u8 0, .int .u8 0, .int .u8 0, .int .u8 0, .int .u8 0, .int .u8 0, .int .u8 0, .int .u8 0, .int .i64 0, .int .i64 0, .int .i64 0, .int .i64 0] 27)) (by as_aux_lemma => kernel_rfl) ?_
                            refine hKq.out _ _ ((hHeld.alloc hHeld.size _)) (fun hHeld2 => ?_)
                            clear hKq Kq hHeld
                            have hHeld := hHeld2
                            clear hHeld2
                            simp only [Act.put, List.setIfInBounds_toArray, List.set_cons_zero, List.set_cons_succ]
                            have HBA := Lib.hid (show Below wbh.heap.size wbh (w1.alloc (.cells L2.cells 27)) from HB1.out.alloc HBZ _)
                            refine wpAnyH_ready (rs := [11]) (by kernel_rfl) (by simp) ?_
                            refine AllReadyH.cons (i := 11) (rs := []) rfl ?_ AllReadyH.nil
                            intro Kq hKq
                            simp only [List.getElem_toArray, List.getElem_cons_succ, List.getElem_cons_zero]
                            rw [if_pos (by rfl)]
                            refine wp_store_row 27 (.tmp 31) (.tmp 176) (by rfl) (w1.heap.size) L2.cells (by as_aux_lemma => kernel_rfl) (by as_aux_lemma => kernel_rfl) 27 #[.int .u8 0, .int .u8 0, .int .u8 0, .int .u8 0, .int .u8 0, .int .u8 0, .int .u8 0, .int .u8 0, .int .u8 0, .int .u8 0, .int .u8 0, .int .u8 0, .int .u8 0, .int .i64 0, .int .i64 0, .int .i64 0, .int .i64 0] (heap_alloc_new _ _) HIK1.out (by as_aux_lemma => kernel_rfl) (one_cells _) ?_
                            rw [setRow_alloc]
                            refine hKq.out _ _ (HBA.out) (fun hHeld2 => ?_)
                            clear hKq Kq hHeld
                            have hHeld := hHeld2
                            clear hHeld2
                            simp only [Act.put, List.setIfInBounds_toArray, List.set_cons_zero, List.set_cons_succ]
                            refine wpAnyH_take (i := 12) (v := v2) rfl (by kernel_rfl) (by kernel_rfl) (by kernel_rfl) (fun _ _ _ h => h) (Or.inl ⟨by rfl, by intro w hSw; clear hHeld hSw; go_simp; (try rfl)⟩) (by assumption) ?_
                            simp only [Act.put, List.setIfInBounds_toArray, List.set_cons_zero, List.set_cons_succ, List.getElem_toArray, List.getElem_cons_succ, List.getElem_cons_zero]
                            refine wpAnyH_take (i := 13) (v := .int .i64 0) rfl (by kernel_rfl) (by kernel_rfl) (by kernel_rfl) (fun _ _ _ h => h) (Or.inl ⟨by rfl, by intro w hSw; clear hHeld hSw; go_simp; (try rfl)⟩) (by assumption) ?_
                            simp only [Act.put, List.setIfInBounds_toArray, List.set_cons_zero, List.set_cons_succ, List.getElem_toArray, List.getElem_cons_succ, List.getElem_cons_zero]
                            clear hHeld
                            refine wpAnyH_done (by kernel_rfl) ?_ _
                            have HT : wbh.heap.size ≤ w1.heap.size ∧ (w1.alloc (.cells L2.cells 27)).heap[w1.heap.size]? = some (.cells L2.cells 27) ∧ Below wbh.heap.size wbh (w1.alloc (.cells L2.cells 27)) ∧ ListOk (fun b => wbh.heap.size ≤ b) (w1.alloc (.cells L2.cells 27)) v2 ([] : List (List Int)) := ⟨HBZ, heap_alloc_new _ _, HBA.out, ((hO.listOk no_ok (Nat.le_trans (show 0 ≤ 2 by decide) (by unfold maxLen; decide))).mono (fun b q => Nat.le_trans HSZ0 q)).keep (kept_below ((Below.refl _ _).alloc (Nat.le_refl _) _))⟩
                            go_wp2_with fail
                            go_meet
                            case rel => exact ⟨_, _, rfl, rfl, rfl, HT⟩
                          · intro Kq hKq
                            simp only [List.getElem_toArray, List.getElem_cons_succ, List.getElem_cons_zero]
                            rw [if_pos (by rfl)]
                            have HTA : wbh.heap.size ≤ wbh.heap.size := hHeld.size
                            refine wp_op_value (.pointer (some ⟨wbh.heap.size, 0, none⟩)) (wbh.drew.alloc (.cells #[.int .u8 0, .int .u8 0, .int .u8 0, .int .u8 0, .int .u8 0, .int .u8 0, .int .u8 0, .int .u8 0, .int .u8 0, .int .u8 0, .int .u8 0, .int .u8 0, .int .u8 0, .int .i64 0, .int .i64 0, .int .i64 0, .int .i64 0] 27)) (by as_aux_lemma => kernel_rfl) ?_
                            refine hKq.out _ _ ((hHeld.alloc hHeld.size _)) (fun hHeld2 => ?_)
                            clear hKq Kq hHeld
                            have hHeld := hHeld2
                            clear hHeld2
                            simp only [Act.put, List.setIfInBounds_toArray, List.set_cons_zero, List.set_cons_succ]
                            refine wpAnyH_ready (rs := [5]) (by kernel_rfl) (by simp) ?_
                            refine AllReadyH.cons (i := 5) (rs := []) rfl ?_ AllReadyH.nil
                            intro Kq hKq
                            simp only [List.getElem_toArray, List.getElem_cons_succ, List.getElem_cons_zero]
                            rw [if_pos (by rfl)]
                            have HSZ0 : wbh.heap.size ≤ ((wbh.drew.alloc (.cells #[.int .u8 0, .int .u8 0, .int .u8 0, .int .u8 0, .int .u8 0, .int .u8 0, .int .u8 0, .int .u8 0, .int .u8 0, .int .u8 0, .int .u8 0, .int .u8 0, .int .u8 0, .int .i64 0, .int .i64 0, .int .i64 0, .int .i64 0] 27))).heap.size := hHeld.size
                            refine wp_call_fn 20 #[.agg L1.cells, mv2, .int .i64 now] (_) (by as_aux_lemma => kernel_rfl) (CH2.out _ _ (MsgIn.below HM2.out hHeld)) ?_
                            rintro e w1 ⟨v2, rfl, hO, hb⟩
                            refine ⟨.tuple #[.agg L2.cells, v2, .int .i64 0], rfl, ?_⟩
                            have HB1 := Lib.hid (hHeld.trans (hb.mono HSZ0))
                            have HBZ : wbh.heap.size ≤ w1.heap.size := HB1.out.size
                            refine hKq.out _ _ (HB1.out) (fun hHeld2 => ?_)
                            clear hKq Kq hHeld
                            have hHeld := hHeld2
                            clear hHeld2
                            simp only [Act.put, List.setIfInBounds_toArray, List.set_cons_zero, List.set_cons_succ]
                            have HRT := Lib.hid (row_below hb (heap_alloc_new _ _))
                            have HTL : wbh.heap.size < ((wbh.drew.alloc (.cells #[.int .u8 0, .int .u8 0, .int .u8 0, .int .u8 0, .int .u8 0, .int .u8 0, .int .u8 0, .int .u8 0, .int .u8 0, .int .u8 0, .int .u8 0, .int .u8 0, .int .u8 0, .int .i64 0, .int .i64 0, .int .i64 0, .int .i64 0] 27))).heap.size := lt_alloc _ _
                            refine wpAnyH_take (i := 6) (v := .tuple #[.agg L2.cells, v2, .int .i64 0]) rfl (by kernel_rfl) (by kernel_rfl) (by kernel_rfl) (fun _ _ _ h => h) (Or.inl ⟨by rfl, by intro w hSw; clear hHeld hSw; go_simp; (try rfl)⟩) (by assumption) ?_
                            simp only [Act.put, List.setIfInBounds_toArray, List.set_cons_zero, List.set_cons_succ, List.getElem_toArray, List.getElem_cons_succ, List.getElem_cons_zero]
                            refine wpAnyH_take (i := 7) (v := .agg L2.cells) rfl (by kernel_rfl) (by kernel_rfl) (by kernel_rfl) (fun _ _ _ h => h) (Or.inl ⟨by rfl, by intro w hSw; clear hHeld hSw; go_simp; (try rfl)⟩) (by assumption) ?_
                            simp only [Act.put, List.setIfInBounds_toArray, List.set_cons_zero, List.set_cons_succ, List.getElem_toArray, List.getElem_cons_succ, List.getElem_cons_zero]
                            refine wpAnyH_take (i := 8) (v := v2) rfl (by kernel_rfl) (by kernel_rfl) (by kernel_rfl) (fun _ _ _ h => h) (Or.inl ⟨by rfl, by intro w hSw; clear hHeld hSw; go_simp; (try rfl)⟩) (by assumption) ?_
                            simp only [Act.put, List.setIfInBounds_toArray, List.set_cons_zero, List.set_cons_succ, List.getElem_toArray, List.getElem_cons_succ, List.getElem_cons_zero]
                            refine wpAnyH_take (i := 9) (v := .int .i64 0) rfl (by kernel_rfl) (by kernel_rfl) (by kernel_rfl) (fun _ _ _ h => h) (Or.inl ⟨by rfl, by intro w hSw; clear hHeld hSw; go_simp; (try rfl)⟩) (by assumption) ?_
                            simp only [Act.put, List.setIfInBounds_toArray, List.set_cons_zero, List.set_cons_succ, List.getElem_toArray, List.getElem_cons_succ, List.getElem_cons_zero]
                            have HBA := Lib.hid (show Below wbh.heap.size wbh (w1.setRow (wbh.heap.size) L2.cells) from below_setRow' HB1.out HTA _)
                            refine wpAnyH_ready (rs := [11]) (by kernel_rfl) (by simp) ?_
                            refine AllReadyH.cons (i := 11) (rs := []) rfl ?_ AllReadyH.nil
                            intro Kq hKq
                            simp only [List.getElem_toArray, List.getElem_cons_succ, List.getElem_cons_zero]
                            rw [if_pos (by rfl)]
                            refine wp_store_row 27 (.tmp 31) (.tmp 176) (by rfl) (wbh.heap.size) L2.cells (by as_aux_lemma => kernel_rfl) (by as_aux_lemma => kernel_rfl) 27 #[.int .u8 0, .int .u8 0, .int .u8 0, .int .u8 0, .int .u8 0, .int .u8 0, .int .u8 0, .int .u8 0, .int .u8 0, .int .u8 0, .int .u8 0, .int .u8 0, .int .u8 0, .int .i64 0, .int .i64 0, .int .i64 0, .int .i64 0] HRT.out HIK1.out (by as_aux_lemma => kernel_rfl) (one_cells _) ?_
                            refine hKq.out _ _ (HBA.out) (fun hHeld2 => ?_)
                            clear hKq Kq hHeld
                            have hHeld := hHeld2
                            clear hHeld2
                            simp only [Act.put, List.setIfInBounds_toArray, List.set_cons_zero, List.set_cons_succ]
                            refine wpAnyH_take (i := 12) (v := v2) rfl (by kernel_rfl) (by kernel_rfl) (by kernel_rfl) (fun _ _ _ h => h) (Or.inl ⟨by rfl, by intro w hSw; clear hHeld hSw; go_simp; (try rfl)⟩) (by assumption) ?_
                            simp only [Act.put, List.setIfInBounds_toArray, List.set_cons_zero, List.set_cons_succ, List.getElem_toArray, List.getElem_cons_succ, List.getElem_cons_zero]
                            refine wpAnyH_take (i := 13) (v := .int .i64 0) rfl (by kernel_rfl) (by kernel_rfl) (by kernel_rfl) (fun _ _ _ h => h) (Or.inl ⟨by rfl, by intro w hSw; clear hHeld hSw; go_simp; (try rfl)⟩) (by assumption) ?_
                            simp only [Act.put, List.setIfInBounds_toArray, List.set_cons_zero, List.set_cons_succ, List.getElem_toArray, List.getElem_cons_succ, List.getElem_cons_zero]
                            clear hHeld
                            refine wpAnyH_done (by kernel_rfl) ?_ _
                            have HT : wbh.heap.size ≤ wbh.heap.size ∧ (w1.setRow (wbh.heap.size) L2.cells).heap[wbh.heap.size]? = some (.cells L2.cells 27) ∧ Below wbh.heap.size wbh (w1.setRow (wbh.heap.size) L2.cells) ∧ ListOk (fun b => wbh.heap.size ≤ b) (w1.setRow (wbh.heap.size) L2.cells) v2 ([] : List (List Int)) := ⟨HTA, setRow_heap _ _ _ _ _ _ HRT.out, HBA.out, ((hO.setRow (wbh.heap.size) HTL L2.cells).listOk no_ok (Nat.le_trans (show 0 ≤ 2 by decide) (by unfold maxLen; decide))).mono (fun b q => Nat.le_trans HSZ0 q)⟩
                            go_wp2_with fail
                            go_meet
                            case rel => exact ⟨_, _, rfl, rfl, rfl, HT⟩
                      case rest =>
                        obtain ⟨T4, v4, rfl, rfl, rfl, hT4, r4, hb, lx⟩ := hcut
                        obtain ⟨weh, hwe⟩ : ∃ q, q = wc := ⟨_, rfl⟩
                        subst hwe
                        obtain ⟨ao4, c4, e4⟩ := nil_ok lx
                        subst e4
                        have R4 := Lib.hid r4
                        have RCe := Lib.hid (row_below hb RCb.out)
                        have RDe := Lib.hid (row_below hb RDb.out)
                        have R3e := Lib.hid (row_below hb R3.out)
                        have HBe := Lib.hid (HBb.out.trans (hb.mono HBb.out.size))
                        have n31 : T3 ≠ T1 := Nat.ne_of_gt (Nat.lt_of_lt_of_le l1 hT3)
                        have n32 : T3 ≠ T2 := Nat.ne_of_gt (Nat.lt_of_lt_of_le l2 hT3)
                        have n41 : T4 ≠ T1 := Nat.ne_of_gt (Nat.lt_of_lt_of_le l1b hT4)
                        have n42 : T4 ≠ T2 := Nat.ne_of_gt (Nat.lt_of_lt_of_le l2b hT4)
                        clear lx r4 hb xd
                        go_upto_region 32 with fail
                        refine wp_region_held_drew (S := fun w' => w'.heap[T3]? = some (.cells K2.cells 27) ∧ w'.heap[T4]? = some (.cells L2.cells 27)) (by kernel_rfl) (⟨R3e.out, R4.out⟩) (fun hHeld => ?_)
                        refine wpAnyH_take (i := 0) (v := .agg K2.cells) rfl (by kernel_rfl) (by kernel_rfl) (by kernel_rfl) (fun _ _ _ h => h) (yields_sub (by rfl) 27 _ rfl (T3) 0 (by rfl) K2.cells _ (fun w' h' => range_row h'.1) Try.underlying27 rfl HIL1.out) (by assumption) ?_
                        simp only [Act.put, List.setIfInBounds_toArray, List.set_cons_zero, List.set_cons_succ, List.getElem_toArray, List.getElem_cons_succ, List.getElem_cons_zero]
                        refine wpAnyH_take (i := 1) (v := .agg L2.cells) rfl (by kernel_rfl) (by kernel_rfl) (by kernel_rfl) (fun _ _ _ h => h) (yields_sub (by rfl) 27 _ rfl (T4) 0 (by rfl) L2.cells _ (fun w' h' => range_row h'.2) Try.underlying27 rfl HIK1.out) (by assumption) ?_
                        simp only [Act.put, List.setIfInBounds_toArray, List.set_cons_zero, List.set_cons_succ, List.getElem_toArray, List.getElem_cons_succ, List.getElem_cons_zero]
                        refine wpAnyH_ready (rs := [2]) (by kernel_rfl) (by simp) ?_
                        refine AllReadyH.cons (i := 2) (rs := []) rfl ?_ AllReadyH.nil
                        intro Kq hKq
                        simp only [List.getElem_toArray, List.getElem_cons_succ, List.getElem_cons_zero]
                        rw [if_pos (by rfl)]
                        refine wp_store_row 27 (.tmp 20) (.tmp 186) (by rfl) T1 K2.cells (by as_aux_lemma => kernel_rfl) (by as_aux_lemma => kernel_rfl) 27 K1.cells (row_drew RCe.out) HIL1.out (by as_aux_lemma => kernel_rfl) (one_cells _) ?_
                        refine hKq.out _ _ (⟨(setRow_other _ _ _ _ n31).trans (row_drew R3e.out), (setRow_other _ _ _ _ n41).trans (row_drew R4.out)⟩) (fun hHeld2 => ?_)
                        clear hKq Kq hHeld
                        have hHeld := hHeld2
                        clear hHeld2
                        simp only [Act.put, List.setIfInBounds_toArray, List.set_cons_zero, List.set_cons_succ]
                        have RDf := Lib.hid (show (weh.drew.setRow T1 K2.cells).heap[T2]? = some (.cells L1.cells 27) from (setRow_other _ _ _ _ hne.symm).trans (row_drew RDe.out))
                        have RCf := Lib.hid (show (weh.drew.setRow T1 K2.cells).heap[T1]? = some (.cells K2.cells 27) from setRow_heap _ _ _ _ _ _ (row_drew RCe.out))
                        have HBf := Lib.hid (show Below wr.heap.size wr (weh.drew.setRow T1 K2.cells) from below_setRow' HBe.out.drew hT1 _)
                        refine wpAnyH_ready (rs := [3]) (by kernel_rfl) (by simp) ?_
                        refine AllReadyH.cons (i := 3) (rs := []) rfl ?_ AllReadyH.nil
                        intro Kq hKq
                        simp only [List.getElem_toArray, List.getElem_cons_succ, List.getElem_cons_zero]
                        rw [if_pos (by rfl)]
                        refine wp_store_row 27 (.tmp 21) (.tmp 187) (by rfl) T2 L2.cells (by as_aux_lemma => kernel_rfl) (by as_aux_lemma => kernel_rfl) 27 L1.cells RDf.out HIK1.out (by as_aux_lemma => kernel_rfl) (one_cells _) ?_
                        refine hKq.out _ _ (⟨(setRow_other _ _ _ _ n32).trans hHeld.1, (setRow_other _ _ _ _ n42).trans hHeld.2⟩) (fun hHeld2 => ?_)
                        clear hKq Kq hHeld
                        have hHeld := hHeld2
                        clear hHeld2
                        simp only [Act.put, List.setIfInBounds_toArray, List.set_cons_zero, List.set_cons_succ]
                        clear hHeld
                        refine wpAnyH_done (by kernel_rfl) ?_ _
                        go_wp2_with fail
                        go_meet
                        case rel => exact ⟨rfl, (setRow_other _ _ _ _ hne).trans RCf.out, setRow_heap _ _ _ _ _ _ RDf.out, below_setRow' HBf.out hT2 _⟩
                  · have hMb : ((i : Int) == his) = false := by simpa using hM
                    obtain ⟨rfl, rfl⟩ := E2.out hM
                    go_wp2_with fail
                    go_meet
                    case rel => exact ⟨rfl, RC.out, RD.out, HBA.out⟩
              case rest =>
                as_aux_lemma =>
                  obtain ⟨rfl, r1, r2, hb⟩ := hcut
                  obtain ⟨wh, hwe⟩ : ∃ q, q = wc := ⟨_, rfl⟩
                  subst hwe
                  have RC := Lib.hid r1
                  have RD := Lib.hid r2
                  have HBA := Lib.hid hb
                  clear r1 r2 hb
                  have hKL : K2.By ∧ L2.By := by
                    by_cases h : (i : Int) = his
                    · obtain ⟨m0, m1, _, _, _, hp, hq⟩ := D2.out h; exact ⟨by have h := fine_handle HK1.out m0 now; rw [hp] at h; exact h.1, by have h := fine_handle HL1.out m1 now; rw [hq] at h; exact h.1⟩
                    · obtain ⟨h1, h2⟩ := E2.out h; rw [h1, h2]; exact ⟨HK1.out, HL1.out⟩
                  have HK2 := Lib.hid hKL.1
                  have HL2 := Lib.hid hKL.2
                  clear hKL D2 E2
                  have HIK2 := Lib.hid (link_info2 K2)
                  have HIL2 := Lib.hid (link_info2 L2)
                  go_upto_region 33 with fail
                  go_cut [195] (fun t195 wx => t195 = .bool (decide (mine ≤ (i : Int) ∧ his ≤ (i : Int))) ∧ wh = wx)
                  case first =>
                    as_aux_lemma =>
                      by_cases h1 : mine ≤ (i : Int)
                      · by_cases h2 : his ≤ (i : Int)
                        · have hdc := Lib.hid (decide_eq_true (show mine ≤ (i : Int) ∧ his ≤ (i : Int) from ⟨h1, h2⟩))
                          go_wp2_with fail
                          go_meet
                          case rel => exact ⟨by rw [hdc.out], rfl⟩
                        · have hdc := Lib.hid (decide_eq_false (show ¬ (mine ≤ (i : Int) ∧ his ≤ (i : Int)) from fun h => h2 h.2))
                          have h3 : (i : Int) < his := by omega
                          have h4 := Lib.hid (decide_eq_false h2)
                          clear h2
                          go_wp2_with fail
                          go_meet
                          case rel => exact ⟨by first | (rw [hdc.out, h4.out]; done) | (rw [hdc.out]; done), rfl⟩
                      · have hdc := Lib.hid (decide_eq_false (show ¬ (mine ≤ (i : Int) ∧ his ≤ (i : Int)) from fun h => h1 h.1))
                        have h3 : (i : Int) < mine := by omega
                        clear h1
                        go_wp2_with fail
                        go_meet
                        case rel => exact ⟨by rw [hdc.out], rfl⟩
                  case rest =>
                    as_aux_lemma =>
                      obtain ⟨rfl, hwe⟩ := hcut
                      subst hwe
                      rcases EN.out with ⟨h1, h2, hp⟩ | ⟨hno, K3, L3, X3, Y3, hp, hq, hx3, hy3, hgo⟩
                      · rw [decide_eq_true (show mine ≤ (i : Int) ∧ his ≤ (i : Int) from ⟨h1, h2⟩)]
                        go_wp2_with (first
                          | ((with_reducible refine wpList_load_subG ?_ 27 (.tmp 20) rfl T1 0 rfl K2.cells _ (range_row RC.out) Try.underlying27 rfl HIK2.out ?_); (as_aux_lemma => kernel_rfl))
                          | ((with_reducible refine wpList_load_subG ?_ 27 (.tmp 21) rfl T2 0 rfl L2.cells _ (range_row RD.out) Try.underlying27 rfl HIL2.out ?_); (as_aux_lemma => kernel_rfl))
                          | ((with_reducible refine wpList_runG ?_ (some 200) rfl (.agg (pairCells K2 L2)) wh ?_ ?_); (as_aux_lemma => kernel_rfl); (as_aux_lemma => kernel_rfl); simp only [Act.put, List.setIfInBounds_toArray, List.set_cons_succ, List.set_cons_zero]))
                        refine (paired_any K2 L2 _).mono ?_
                        rintro e wi ⟨rfl, hb⟩
                        have HBZ := Lib.hid (below_step HBL.out (HBA.out.trans (hb.mono HBA.out.size)))
                        clear hb
                        simp only [hp]
                        go_wp2
                        go_ret
                        exact ⟨rfl, HBZ.out⟩
                      · rw [decide_eq_false hno]
                        have hf3 := fine_tick HK2.out (now + 40000)
                        rw [hp] at hf3
                        have hf4 := fine_tick HL2.out (now + 40000)
                        rw [hq] at hf4
                        have HF3 := Lib.hid hf3
                        have HF4 := Lib.hid hf4
                        have HGO := Lib.hid hgo
                        have HX3 := Lib.hid hx3
                        have HY3 := Lib.hid hy3
                        have C3 := Lib.hid (fun W => ret_of hp (tick_any K2 HK2.out (now + 40000) W))
                        have C4 := Lib.hid (fun W => ret_of hq (tick_any L2 HL2.out (now + 40000) W))
                        clear hp hq hf3 hf4 hgo hx3 hy3
                        have HI3 := Lib.hid (link_info2 K3)
                        have HI4 := Lib.hid (link_info2 L3)
                        have RAh := Lib.hid (row_below HBA.out RA.out)
                        have RBh := Lib.hid (row_below HBA.out RB.out)
                        have HBh := Lib.hid (below_step HBL.out HBA.out)
                        have lah : a0 < wh.heap.size := row_lt RAh.out
                        have lbh : b0 < wh.heap.size := row_lt RBh.out
                        go_wp2_with (with_reducible refine wpList_load_row rfl 27 (.tmp 20) rfl T1 rfl 27 K2.cells (0, 0) _ RC.out Try.underlying27 rfl HIK2.out ?_)
                        refine (C3.out _).mono ?_
                        rintro e wj ⟨v3, rfl, hO, hb⟩
                        have LX3 := Lib.hid (hO.listOk HF3.out.2.1 (Nat.le_trans HF3.out.2.2 (by unfold maxLen; decide)))
                        have RAj := Lib.hid (row_below hb RAh.out)
                        have RBj := Lib.hid (row_below hb RBh.out)
                        have RDj := Lib.hid (row_below hb RD.out)
                        have HBj := Lib.hid (below_step HBh.out hb)
                        clear hO hb
                        have RAk := Lib.hid (show (wj.setRow a0 K3.cells).heap[a0]? = some (.cells K3.cells 27) from setRow_heap _ _ _ _ _ _ RAj.out)
                        have RBk := Lib.hid (show (wj.setRow a0 K3.cells).heap[b0]? = some (.cells L.cells 27) from (setRow_other _ _ _ _ (Nat.ne_of_gt nAB)).trans RBj.out)
                        have nDa : T2 ≠ a0 := Nat.ne_of_gt (Nat.lt_of_lt_of_le (row_lt RA.out) hT2)
                        have RDk := Lib.hid (show (wj.setRow a0 K3.cells).heap[T2]? = some (.cells L2.cells 27) from (setRow_other _ _ _ _ nDa).trans RDj.out)
                        have HBk := Lib.hid (show Below w.heap.size w (wj.setRow a0 K3.cells) from below_setRow' HBj.out gA0 _)
                        have LXk := Lib.hid (show ListOk (fun b => wh.heap.size ≤ b) (wj.setRow a0 K3.cells) v3 X3 from LX3.out.keep (kept_setRow (Nat.not_le_of_lt lah)))
                        go_wp2_with (first
                          | ((with_reducible refine wpList_store_rowTo rfl 27 (.tmp 13) (.tmp 209) rfl rfl a0 K3.cells ?_ ?_ 27 K.cells RAj.out HI3.out rfl (one_cells _) ?_); (as_aux_lemma => kernel_rfl); (as_aux_lemma => kernel_rfl))
                          | (with_reducible refine wpList_load_row rfl 27 (.tmp 21) rfl T2 rfl 27 L2.cells (0, 0) _ RDk.out Try.underlying27 rfl HIL2.out ?_))
                        refine (C4.out _).mono ?_
                        rintro e wk ⟨v4, rfl, hO, hb⟩
                        have LY4 := Lib.hid ((hO.listOk HF4.out.2.1 (Nat.le_trans HF4.out.2.2 (by unfold maxLen; decide))))
                        have RAl := Lib.hid (row_below hb RAk.out)
                        have RBl := Lib.hid (row_below hb RBk.out)
                        have HBl := Lib.hid (below_step HBk.out hb)
                        have LXl := Lib.hid (LXk.out.keep (kept_below hb))
                        have lbk : b0 < (wj.setRow a0 K3.cells).heap.size := row_lt RBk.out
                        clear hO hb
                        have RAm := Lib.hid (show (wk.setRow b0 L3.cells).heap[a0]? = some (.cells K3.cells 27) from (setRow_other _ _ _ _ (Nat.ne_of_lt nAB)).trans RAl.out)
                        have RBm := Lib.hid (show (wk.setRow b0 L3.cells).heap[b0]? = some (.cells L3.cells 27) from setRow_heap _ _ _ _ _ _ RBl.out)
                        have HBm := Lib.hid (show Below w.heap.size w (wk.setRow b0 L3.cells) from below_setRow' HBl.out gB0 _)
                        have LXm := Lib.hid (show ListIn (wk.setRow b0 L3.cells) v3 X3 from (LXl.out.keep (kept_setRow (Nat.not_le_of_lt lbh))).listIn)
                        have LYm := Lib.hid (show ListIn (wk.setRow b0 L3.cells) v4 Y3 from (LY4.out.keep (kept_setRow (Nat.not_le_of_lt lbk))).listIn)
                        obtain ⟨ao3, c3, e3⟩ := form_in LXm.out
                        obtain ⟨ao4, c4, e4⟩ := form_in LYm.out
                        subst e3
                        subst e4
                        go_upto_region 38 with ((with_reducible refine wpList_store_rowTo rfl 27 (.tmp 16) (.tmp 216) rfl rfl b0 L3.cells ?_ ?_ 27 L.cells RBl.out HI4.out rfl (one_cells _) ?_); (as_aux_lemma => kernel_rfl); (as_aux_lemma => kernel_rfl))
                        have hcm : (i : Int) < mine ∧ ((X3.length : Int) == 0) = false ∨ mine ≤ (i : Int) := by
                          by_cases h : (i : Int) < mine
                          · exact .inl ⟨h, len_no (HX3.out h)⟩
                          · exact .inr (Int.not_lt.1 h)
                        have hch : (i : Int) < his ∧ ((Y3.length : Int) == 0) = false ∨ his ≤ (i : Int) := by
                          by_cases h : (i : Int) < his
                          · exact .inl ⟨h, len_no (HY3.out h)⟩
                          · exact .inr (Int.not_lt.1 h)
                        have hgf : i + 1 + f = 3 := by omega
                        rcases hcm with ⟨c1, c2⟩ | c1 <;> rcases hch with ⟨c3, c4⟩ | c3
                        all_goals first
                          | exact (hno ⟨by assumption, by assumption⟩).elim
                          | (go_wp2_with fail; go_roundg f; (case measure => exact Nat.lt_succ_self _); (case rel => exact ⟨i + 1, now + 40000, hgf, rfl, rfl, rfl, rfl, K3, L3, X3, Y3, HF3.out.1, HF4.out.1, LXm.out, LYm.out, time_i HNOW.out, HGO.out, RAm.out, RBm.out, HBm.out⟩))
theorem walk (id other mine his : Int) (w : World) : Calls Try.prog 6 #[.int .i64 id, .int .i64 other, .int .i64 mine, .int .i64 his] w (BoolR w) := by
  by_cases hm0 : mine < 0
  · exact out_m0 id other mine his hm0 w
  by_cases hm2 : 2 < mine
  · exact out_m2 id other mine his (by omega) hm2 w
  by_cases hh0 : his < 0
  · exact out_h0 id other mine his (by omega) (by omega) hh0 w
  by_cases hh2 : 2 < his
  · exact out_h2 id other mine his (by omega) (by omega) (by omega) hh2 w
  by_cases hb : (inB id && inB other) = true
  · rw [Bool.and_eq_true] at hb
    exact in_ id other mine his (btw_iff.1 hb.1) (btw_iff.1 hb.2) (by omega) (by omega) w
  · exact out_ids id other mine his (by simpa using hb) (by omega) (by omega) w
end Go.Proofs.Ytmighkgjbohieaa.peerLosses
