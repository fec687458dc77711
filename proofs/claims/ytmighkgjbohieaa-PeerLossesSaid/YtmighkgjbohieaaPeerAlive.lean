/-
  The contract of the law's alive: the chapter's example.
-/
import Derived.Test.YtmighkgjbohieaaPeerPassed
set_option linter.unusedVariables false
set_option linter.unusedSimpArgs false
namespace Go.Proofs.Ytmighkgjbohieaa
open Go.ChangeShapes Go.WideShapes Go.ChangeAt Go.RowKit Go.Great

theorem passed_of {x y px py : Lk} {o0 o1 : List (List Int)} {now : Int} {b : Bool} (h : passF 100 x y o0 o1 now = (px, py, b)) (v0 v1 : Value) (hx : x.By) (hy : y.By) (h0 : ∀ m ∈ o0, MsgOk m) (h1 : ∀ m ∈ o1, MsgOk m) (hlen : o0.length + o1.length ≤ 800) (w : World) (l0 : ListIn w v0 o0) (l1 : ListIn w v1 o1) :
    Calls Try.prog 18 #[.agg (pairCells x y), .agg #[v0, v1], .int .i64 now] w fun e w' => e = .returned (.tuple #[.agg (pairCells px py), .bool b]) ∧ Below w.heap.size w w' := by
  have := passed_any x y v0 v1 o0 o1 now hx hy h0 h1 hlen w l0 l1
  rw [h] at this
  exact this
theorem listIn_nil (w : World) : ListIn w (.slice none 0 0) [] := ⟨none, 0, rfl, Nat.le_refl _, by unfold maxLen; decide, fun h => absurd rfl h⟩
theorem pair_snd {a : Lk} {r : Res} {ms : List (List Int)} {e : Int} (h : r.2 = (ms, e)) (ha : r.1 = a) : r = (a, ms, e) := by
  obtain ⟨x, y⟩ := r
  simp only at h ha
  rw [h, ha]
theorem b0 : (0 : Int) ≤ 0 ∧ (0 : Int) ≤ 255 := by decide
theorem b2 : (0 : Int) ≤ 2 ∧ (2 : Int) ≤ 255 := by decide
theorem b3 : (0 : Int) ≤ 3 ∧ (3 : Int) ≤ 255 := by decide
theorem b4 : (0 : Int) ≤ 4 ∧ (4 : Int) ≤ 255 := by decide
theorem k0_by {id : Int} : (k0 id).By := by
  simp only [k0]
  split
  · exact ⟨b2, b0, b0, b0, b0, b3, b2, b0, b0, b0, b0, b4⟩
  · exact zero_by
theorem k1_by {id : Int} : (k1 id).By := by
  simp only [k1]
  split
  · exact ⟨b2, b0, b0, b0, b0, b4, b2, b0, b0, b0, b0, b3⟩
  · exact zero_by
/-- The example's parts, as contracts over letters. -/
theorem al_facts : ∃ K0 K1 kA kB pa pb : Lk, kA.By ∧ kB.By ∧
    (∀ w, Calls Try.prog 11 #[.int .i64 7, .int .i64 9] w fun e w' => e = .returned (.tuple #[.agg (pairCells K0 K1), .bool true]) ∧ Below w.heap.size w w') ∧
    (∀ w, Calls Try.prog 17 #[.agg K0.cells, .int .i64 0] w (Ret3 w kA [msgOf 1 7 0] 0)) ∧
    (∀ w mv, MsgIn w mv (msgOf 1 7 0) → Calls Try.prog 20 #[.agg K1.cells, mv, .int .i64 0] w (Ret3 w kB [msgOf 1 9 0, msgOf 2 9 7] 0)) ∧
    passF 100 kA kB [] [msgOf 1 9 0, msgOf 2 9 7] 0 = (pa, pb, true) ∧ pairedB pa pb = true := by
  refine ⟨k0 7, k1 9, exA.1, exB.1, exP.1, exP.2.1, (fine_start k0_by 0).1, (fine_handle k1_by _ 0).1, fun w => ?_, fun w => ?_, fun w mv hm => ?_, ?_, ex_p.2⟩
  · have h := ends_any 7 9 w
    rw [show (inB 7 && inB 9) = true by decide] at h
    exact h
  · have h : Calls _ _ _ w (RetR w exA) := start_any (k0 7) k0_by 0 w
    rw [retR (pair_snd ex_a rfl)] at h
    exact h
  · have h : Calls _ _ _ w (RetR w exB) := handle_any (k1 9) k1_by 0 mv (msgOf 1 7 0) w hm
    rw [retR (pair_snd ex_b rfl)] at h
    exact h
  · have h1 := ex_p.1
    have h2 : exP = passF 100 exA.1 exB.1 [] [msgOf 1 9 0, msgOf 2 9 7] 0 := by simp only [exP, ex_b]
    rw [← h2, ← h1]
set_option maxHeartbeats 4000000 in
theorem alive_any (w : World) : Calls Try.prog 10 #[] w fun e w' => e = .returned (.bool true) ∧ Below w.heap.size w w' := by
  obtain ⟨K0, K1, kA, k2, pa, pb, byA, byB, cE, cS, cH, hp, hpp⟩ := al_facts
  have CE := Lib.hid cE
  have CS := Lib.hid cS
  have CH := Lib.hid cH
  have HP := Lib.hid hp
  have HPP := Lib.hid hpp
  have HIP := Lib.hid (pair_info K0 K1)
  have HIQ := Lib.hid (pair_info pa pb)
  have HI0 := Lib.hid (link_info2 K0)
  have HI1 := Lib.hid (link_info2 K1)
  have HIA := Lib.hid (link_info2 kA)
  have HI2 := Lib.hid (link_info2 k2)
  have f2 : ∀ m ∈ [msgOf 1 9 0, msgOf 2 9 7], MsgOk m := fun m hm => by
    rcases List.mem_cons.1 hm with rfl | hm
    · exact msgOf_ok 1 9 0 (by decide)
    · rw [List.mem_singleton.1 hm]; exact msgOf_ok 2 9 7 (by decide)
  have f3 : [msgOf 1 9 0, msgOf 2 9 7].length ≤ 2 := by decide
  have f4 : ∀ m ∈ [msgOf 1 7 0], MsgOk m := fun m hm => by rw [List.mem_singleton.1 hm]; exact msgOf_ok 1 7 0 (by decide)
  have F2 := Lib.hid f2
  clear cE cS cH hp hpp
  go_enter Try.func10, Try.ntmps10
  go_wp2_with (fail)
  refine (CE.out _).mono ?_
  rintro e w1 ⟨rfl, hb⟩
  have HBw1 := Lib.hid (Below.trans (Below.refl w.heap.size w) (hb.mono (by (try simp only [World.size_alloc, size_setRow]); omega)))
  have hzw1 := HBw1.out.size
  clear hb
  go_wp2_with (first
    | (with_reducible refine wpList_runTo rfl (some 1) rfl (.pointer (some ⟨w1.heap.size, 0, none⟩)) (w1.alloc (.cells zp 28)) (by as_aux_lemma => kernel_rfl) ?_; simp only [Act.put, List.setIfInBounds_toArray, List.set_cons_succ, List.set_cons_zero])
    | ((with_reducible refine wpList_store_rowTo rfl 28 (.tmp 1) (.tmp 11) rfl rfl (w1.heap.size) (pairCells K0 K1) ?_ ?_ 28 zp (heap_alloc_at rfl) HIP.out rfl (pair_one _ _) ?_); (as_aux_lemma => kernel_rfl); (as_aux_lemma => kernel_rfl); rw [setRow_allocAt rfl])
    | ((with_reducible refine wpList_load_sub rfl 27 (.tmp 14) rfl (w1.heap.size) 0 rfl K0.cells _ (range_pair0 (heap_alloc_at rfl)) Try.underlying27 rfl HI0.out ?_)))
  refine (CS.out _).mono ?_
  rintro e w2 ⟨v1, rfl, hO, hb⟩
  have RSw2 := Lib.hid (show w2.heap[w1.heap.size]? = some (.cells (pairCells K0 K1) 28) from row_below hb (heap_alloc_at rfl))
  have HBw2 := Lib.hid (Below.trans (Below.alloc HBw1.out (by omega) _) (hb.mono (by (try simp only [World.size_alloc, size_setRow]); omega)))
  have hzw2 := HBw2.out.size
  clear hb
  have LX := Lib.hid (hO.read f4 (by unfold maxLen; decide))
  clear hO
  go_upto_region 3 with ((with_reducible refine wpList_store_rowTo rfl 27 (.tmp 3) (.tmp 17) rfl rfl (w2.heap.size) (kA.cells) ?_ ?_ 27 #[.int .u8 0, .int .u8 0, .int .u8 0, .int .u8 0, .int .u8 0, .int .u8 0, .int .u8 0, .int .u8 0, .int .u8 0, .int .u8 0, .int .u8 0, .int .u8 0, .int .u8 0, .int .i64 0, .int .i64 0, .int .i64 0, .int .i64 0] (heap_alloc_at rfl) HIA.out rfl (one_cells _) ?_); (as_aux_lemma => kernel_rfl); (as_aux_lemma => kernel_rfl); rw [setRow_allocAt rfl])
  obtain ⟨wq, hwq⟩ : ∃ wq, wq = (w2.alloc (.cells kA.cells 27)) := ⟨_, rfl⟩
  rw [← hwq]
  have hb : Below ((w2.alloc (.cells kA.cells 27))).heap.size (w2.alloc (.cells kA.cells 27)) wq := by rw [hwq]; exact Below.refl _ _
  clear hwq
  have RSwq := Lib.hid (show wq.heap[w1.heap.size]? = some (.cells (pairCells K0 K1) 28) from row_below hb (row_alloc RSw2.out))
  have RAwq := Lib.hid (show wq.heap[w2.heap.size]? = some (.cells kA.cells 27) from row_below hb (heap_alloc_at rfl))
  have LXwq := Lib.hid (show ListIn wq v1 [msgOf 1 7 0] from ListIn.below (ListIn.below LX.out ((Below.refl _ _).alloc (Nat.le_refl _) _)) hb)
  have HBwq := Lib.hid (Below.trans (Below.alloc HBw2.out (by omega) _) (hb.mono (by (try simp only [World.size_alloc, size_setRow]); omega)))
  have hzwq := HBwq.out.size
  clear hb
  go_cut [6, 7, 8] (fun t10 t11 t12 wx => ∃ T v2, t10 = .pointer (some ⟨T, 0, none⟩) ∧ t11 = v2 ∧ t12 = .int .i64 0 ∧ wq.heap.size ≤ T ∧ wx.heap[T]? = some (.cells k2.cells 27) ∧ Below wq.heap.size wq wx ∧ ListOk (fun b => wq.heap.size ≤ b) wx v2 [msgOf 1 9 0, msgOf 2 9 7])
  case first =>
    refine wp_region_held_drew (S := fun w' => Below wq.heap.size wq w') (by kernel_rfl) ((Below.refl _ _).drew) (fun hHeld => ?_)
    refine wpAnyH_take (i := 0) (v := .pointer (some ⟨w1.heap.size, 17, none⟩)) rfl (by kernel_rfl) (by kernel_rfl) (by kernel_rfl) (fun _ _ _ h => h) (Or.inl ⟨by rfl, by intro w hSw; clear hHeld hSw; go_simp; (try rfl)⟩) (by assumption) ?_
    simp only [Act.put, List.setIfInBounds_toArray, List.set_cons_zero, List.set_cons_succ, List.getElem_toArray, List.getElem_cons_succ, List.getElem_cons_zero]
    refine wpAnyH_take (i := 1) (v := .agg K1.cells) rfl (by kernel_rfl) (by kernel_rfl) (by kernel_rfl) (fun _ _ _ h => h) (yields_sub (by rfl) 27 _ rfl (w1.heap.size) 17 (by rfl) K1.cells _ (fun w' h' => range_pair1 (row_below h' RSwq.out)) Try.underlying27 rfl HI1.out) (by assumption) ?_
    simp only [Act.put, List.setIfInBounds_toArray, List.set_cons_zero, List.set_cons_succ, List.getElem_toArray, List.getElem_cons_succ, List.getElem_cons_zero]
    refine wpAnyH_ready (rs := [2, 8]) (by kernel_rfl) (by simp) ?_
    refine AllReadyH.cons (i := 2) (rs := [8]) rfl ?_ (AllReadyH.cons (i := 8) (rs := []) rfl ?_ AllReadyH.nil)
    · intro Kq hKq
      simp only [List.getElem_toArray, List.getElem_cons_succ, List.getElem_cons_zero]
      rw [if_pos (by rfl)]
      refine wp_call_fn 34 #[.int .i64 7] (_) (by as_aux_lemma => kernel_rfl) (open_any 7 (by decide) (by decide) _) ?_
      rintro e wo ⟨mv, rfl, hM, hbo⟩
      refine ⟨mv, rfl, ?_⟩
      refine hKq.out _ _ ((hHeld.trans (hbo.mono hHeld.size))) (fun hHeld2 => ?_)
      clear hKq Kq hHeld
      have hHeld := hHeld2
      clear hHeld2
      simp only [Act.put, List.setIfInBounds_toArray, List.set_cons_zero, List.set_cons_succ]
      have HMI := Lib.hid (hM.read (msgOf_ok 1 7 0 (by decide)).2)
      refine wpAnyH_ready (rs := [3, 8]) (by kernel_rfl) (by simp) ?_
      refine AllReadyH.cons (i := 3) (rs := [8]) rfl ?_ (AllReadyH.cons (i := 8) (rs := []) rfl ?_ AllReadyH.nil)
      · intro Kq hKq
        simp only [List.getElem_toArray, List.getElem_cons_succ, List.getElem_cons_zero]
        rw [if_pos (by rfl)]
        have HSZ0 : wq.heap.size ≤ (wo).heap.size := hHeld.size
        refine wp_call_fn 20 #[.agg K1.cells, mv, .int .i64 0] (_) (by as_aux_lemma => kernel_rfl) (CH.out _ mv HMI.out) ?_
        rintro e w1 ⟨v2, rfl, hO, hb⟩
        refine ⟨.tuple #[.agg k2.cells, v2, .int .i64 0], rfl, ?_⟩
        have HB1 := Lib.hid (hHeld.trans (hb.mono HSZ0))
        have HBZ : wq.heap.size ≤ w1.heap.size := HB1.out.size
        refine hKq.out _ _ (HB1.out) (fun hHeld2 => ?_)
        clear hKq Kq hHeld
        have hHeld := hHeld2
        clear hHeld2
        simp only [Act.put, List.setIfInBounds_toArray, List.set_cons_zero, List.set_cons_succ]
        refine wpAnyH_take (i := 4) (v := .tuple #[.agg k2.cells, v2, .int .i64 0]) rfl (by kernel_rfl) (by kernel_rfl) (by kernel_rfl) (fun _ _ _ h => h) (Or.inl ⟨by rfl, by intro w hSw; clear hHeld hSw; go_simp; (try rfl)⟩) (by assumption) ?_
        simp only [Act.put, List.setIfInBounds_toArray, List.set_cons_zero, List.set_cons_succ, List.getElem_toArray, List.getElem_cons_succ, List.getElem_cons_zero]
        refine wpAnyH_take (i := 5) (v := .agg k2.cells) rfl (by kernel_rfl) (by kernel_rfl) (by kernel_rfl) (fun _ _ _ h => h) (Or.inl ⟨by rfl, by intro w hSw; clear hHeld hSw; go_simp; (try rfl)⟩) (by assumption) ?_
        simp only [Act.put, List.setIfInBounds_toArray, List.set_cons_zero, List.set_cons_succ, List.getElem_toArray, List.getElem_cons_succ, List.getElem_cons_zero]
        refine wpAnyH_take (i := 6) (v := v2) rfl (by kernel_rfl) (by kernel_rfl) (by kernel_rfl) (fun _ _ _ h => h) (Or.inl ⟨by rfl, by intro w hSw; clear hHeld hSw; go_simp; (try rfl)⟩) (by assumption) ?_
        simp only [Act.put, List.setIfInBounds_toArray, List.set_cons_zero, List.set_cons_succ, List.getElem_toArray, List.getElem_cons_succ, List.getElem_cons_zero]
        refine wpAnyH_take (i := 7) (v := .int .i64 0) rfl (by kernel_rfl) (by kernel_rfl) (by kernel_rfl) (fun _ _ _ h => h) (Or.inl ⟨by rfl, by intro w hSw; clear hHeld hSw; go_simp; (try rfl)⟩) (by assumption) ?_
        simp only [Act.put, List.setIfInBounds_toArray, List.set_cons_zero, List.set_cons_succ, List.getElem_toArray, List.getElem_cons_succ, List.getElem_cons_zero]
        refine wpAnyH_ready (rs := [8]) (by kernel_rfl) (by simp) ?_
        refine AllReadyH.cons (i := 8) (rs := []) rfl ?_ AllReadyH.nil
        intro Kq hKq
        simp only [List.getElem_toArray, List.getElem_cons_succ, List.getElem_cons_zero]
        rw [if_pos (by rfl)]
        have HTA : wq.heap.size ≤ w1.heap.size := hHeld.size
        refine wp_op_value (.pointer (some ⟨w1.heap.size, 0, none⟩)) (w1.alloc (.cells #[.int .u8 0, .int .u8 0, .int .u8 0, .int .u8 0, .int .u8 0, .int .u8 0, .int .u8 0, .int .u8 0, .int .u8 0, .int .u8 0, .int .u8 0, .int .u8 0, .int .u8 0, .int .i64 0, .int .i64 0, .int .i64 0, .int .i64 0] 27)) (by as_aux_lemma => kernel_rfl) ?_
        refine hKq.out _ _ ((hHeld.alloc hHeld.size _)) (fun hHeld2 => ?_)
        clear hKq Kq hHeld
        have hHeld := hHeld2
        clear hHeld2
        simp only [Act.put, List.setIfInBounds_toArray, List.set_cons_zero, List.set_cons_succ]
        have HBA := Lib.hid (show Below wq.heap.size wq (w1.alloc (.cells k2.cells 27)) from HB1.out.alloc HBZ _)
        refine wpAnyH_ready (rs := [9]) (by kernel_rfl) (by simp) ?_
        refine AllReadyH.cons (i := 9) (rs := []) rfl ?_ AllReadyH.nil
        intro Kq hKq
        simp only [List.getElem_toArray, List.getElem_cons_succ, List.getElem_cons_zero]
        rw [if_pos (by rfl)]
        refine wp_store_row 27 (.tmp 6) (.tmp 25) (by rfl) (w1.heap.size) k2.cells (by as_aux_lemma => kernel_rfl) (by as_aux_lemma => kernel_rfl) 27 #[.int .u8 0, .int .u8 0, .int .u8 0, .int .u8 0, .int .u8 0, .int .u8 0, .int .u8 0, .int .u8 0, .int .u8 0, .int .u8 0, .int .u8 0, .int .u8 0, .int .u8 0, .int .i64 0, .int .i64 0, .int .i64 0, .int .i64 0] (heap_alloc_new _ _) HI2.out (by as_aux_lemma => kernel_rfl) (one_cells _) ?_
        rw [setRow_alloc]
        refine hKq.out _ _ (HBA.out) (fun hHeld2 => ?_)
        clear hKq Kq hHeld
        have hHeld := hHeld2
        clear hHeld2
        simp only [Act.put, List.setIfInBounds_toArray, List.set_cons_zero, List.set_cons_succ]
        refine wpAnyH_take (i := 10) (v := v2) rfl (by kernel_rfl) (by kernel_rfl) (by kernel_rfl) (fun _ _ _ h => h) (Or.inl ⟨by rfl, by intro w hSw; clear hHeld hSw; go_simp; (try rfl)⟩) (by assumption) ?_
        simp only [Act.put, List.setIfInBounds_toArray, List.set_cons_zero, List.set_cons_succ, List.getElem_toArray, List.getElem_cons_succ, List.getElem_cons_zero]
        refine wpAnyH_take (i := 11) (v := .int .i64 0) rfl (by kernel_rfl) (by kernel_rfl) (by kernel_rfl) (fun _ _ _ h => h) (Or.inl ⟨by rfl, by intro w hSw; clear hHeld hSw; go_simp; (try rfl)⟩) (by assumption) ?_
        simp only [Act.put, List.setIfInBounds_toArray, List.set_cons_zero, List.set_cons_succ, List.getElem_toArray, List.getElem_cons_succ, List.getElem_cons_zero]
        clear hHeld
        refine wpAnyH_done (by kernel_rfl) ?_ _
        have HT : wq.heap.size ≤ w1.heap.size ∧ (w1.alloc (.cells k2.cells 27)).heap[w1.heap.size]? = some (.cells k2.cells 27) ∧ Below wq.heap.size wq (w1.alloc (.cells k2.cells 27)) ∧ ListOk (fun b => wq.heap.size ≤ b) (w1.alloc (.cells k2.cells 27)) v2 [msgOf 1 9 0, msgOf 2 9 7] := ⟨HBZ, heap_alloc_new _ _, HBA.out, ((hO.listOk F2.out (Nat.le_trans f3 (by unfold maxLen; decide))).mono (fun b q => Nat.le_trans HSZ0 q)).keep (kept_below ((Below.refl _ _).alloc (Nat.le_refl _) _))⟩
        go_wp2_with fail
        go_meet
        case rel => exact ⟨_, _, rfl, rfl, rfl, HT⟩
      · intro Kq hKq
        simp only [List.getElem_toArray, List.getElem_cons_succ, List.getElem_cons_zero]
        rw [if_pos (by rfl)]
        have HTA : wq.heap.size ≤ wo.heap.size := hHeld.size
        refine wp_op_value (.pointer (some ⟨wo.heap.size, 0, none⟩)) (wo.alloc (.cells #[.int .u8 0, .int .u8 0, .int .u8 0, .int .u8 0, .int .u8 0, .int .u8 0, .int .u8 0, .int .u8 0, .int .u8 0, .int .u8 0, .int .u8 0, .int .u8 0, .int .u8 0, .int .i64 0, .int .i64 0, .int .i64 0, .int .i64 0] 27)) (by as_aux_lemma => kernel_rfl) ?_
        refine hKq.out _ _ ((hHeld.alloc hHeld.size _)) (fun hHeld2 => ?_)
        clear hKq Kq hHeld
        have hHeld := hHeld2
        clear hHeld2
        simp only [Act.put, List.setIfInBounds_toArray, List.set_cons_zero, List.set_cons_succ]
        refine wpAnyH_ready (rs := [3]) (by kernel_rfl) (by simp) ?_
        refine AllReadyH.cons (i := 3) (rs := []) rfl ?_ AllReadyH.nil
        intro Kq hKq
        simp only [List.getElem_toArray, List.getElem_cons_succ, List.getElem_cons_zero]
        rw [if_pos (by rfl)]
        have HSZ0 : wq.heap.size ≤ ((wo.alloc (.cells #[.int .u8 0, .int .u8 0, .int .u8 0, .int .u8 0, .int .u8 0, .int .u8 0, .int .u8 0, .int .u8 0, .int .u8 0, .int .u8 0, .int .u8 0, .int .u8 0, .int .u8 0, .int .i64 0, .int .i64 0, .int .i64 0, .int .i64 0] 27))).heap.size := hHeld.size
        refine wp_call_fn 20 #[.agg K1.cells, mv, .int .i64 0] (_) (by as_aux_lemma => kernel_rfl) (CH.out _ mv (MsgIn.below HMI.out ((Below.refl _ _).alloc (Nat.le_refl _) _))) ?_
        rintro e w1 ⟨v2, rfl, hO, hb⟩
        refine ⟨.tuple #[.agg k2.cells, v2, .int .i64 0], rfl, ?_⟩
        have HB1 := Lib.hid (hHeld.trans (hb.mono HSZ0))
        have HBZ : wq.heap.size ≤ w1.heap.size := HB1.out.size
        refine hKq.out _ _ (HB1.out) (fun hHeld2 => ?_)
        clear hKq Kq hHeld
        have hHeld := hHeld2
        clear hHeld2
        simp only [Act.put, List.setIfInBounds_toArray, List.set_cons_zero, List.set_cons_succ]
        have HRT := Lib.hid (row_below hb (heap_alloc_new _ _))
        have HTL : wo.heap.size < ((wo.alloc (.cells #[.int .u8 0, .int .u8 0, .int .u8 0, .int .u8 0, .int .u8 0, .int .u8 0, .int .u8 0, .int .u8 0, .int .u8 0, .int .u8 0, .int .u8 0, .int .u8 0, .int .u8 0, .int .i64 0, .int .i64 0, .int .i64 0, .int .i64 0] 27))).heap.size := by (try simp only [World.size_alloc, drew_heap]); first | omega | (have := hbo.size; simp only [World.size_alloc, drew_heap] at this; omega)
        refine wpAnyH_take (i := 4) (v := .tuple #[.agg k2.cells, v2, .int .i64 0]) rfl (by kernel_rfl) (by kernel_rfl) (by kernel_rfl) (fun _ _ _ h => h) (Or.inl ⟨by rfl, by intro w hSw; clear hHeld hSw; go_simp; (try rfl)⟩) (by assumption) ?_
        simp only [Act.put, List.setIfInBounds_toArray, List.set_cons_zero, List.set_cons_succ, List.getElem_toArray, List.getElem_cons_succ, List.getElem_cons_zero]
        refine wpAnyH_take (i := 5) (v := .agg k2.cells) rfl (by kernel_rfl) (by kernel_rfl) (by kernel_rfl) (fun _ _ _ h => h) (Or.inl ⟨by rfl, by intro w hSw; clear hHeld hSw; go_simp; (try rfl)⟩) (by assumption) ?_
        simp only [Act.put, List.setIfInBounds_toArray, List.set_cons_zero, List.set_cons_succ, List.getElem_toArray, List.getElem_cons_succ, List.getElem_cons_zero]
        refine wpAnyH_take (i := 6) (v := v2) rfl (by kernel_rfl) (by kernel_rfl) (by kernel_rfl) (fun _ _ _ h => h) (Or.inl ⟨by rfl, by intro w hSw; clear hHeld hSw; go_simp; (try rfl)⟩) (by assumption) ?_
        simp only [Act.put, List.setIfInBounds_toArray, List.set_cons_zero, List.set_cons_succ, List.getElem_toArray, List.getElem_cons_succ, List.getElem_cons_zero]
        refine wpAnyH_take (i := 7) (v := .int .i64 0) rfl (by kernel_rfl) (by kernel_rfl) (by kernel_rfl) (fun _ _ _ h => h) (Or.inl ⟨by rfl, by intro w hSw; clear hHeld hSw; go_simp; (try rfl)⟩) (by assumption) ?_
        simp only [Act.put, List.setIfInBounds_toArray, List.set_cons_zero, List.set_cons_succ, List.getElem_toArray, List.getElem_cons_succ, List.getElem_cons_zero]
        have HBA := Lib.hid (show Below wq.heap.size wq (w1.setRow (wo.heap.size) k2.cells) from below_setRow' HB1.out HTA _)
        refine wpAnyH_ready (rs := [9]) (by kernel_rfl) (by simp) ?_
        refine AllReadyH.cons (i := 9) (rs := []) rfl ?_ AllReadyH.nil
        intro Kq hKq
        simp only [List.getElem_toArray, List.getElem_cons_succ, List.getElem_cons_zero]
        rw [if_pos (by rfl)]
        refine wp_store_row 27 (.tmp 6) (.tmp 25) (by rfl) (wo.heap.size) k2.cells (by as_aux_lemma => kernel_rfl) (by as_aux_lemma => kernel_rfl) 27 #[.int .u8 0, .int .u8 0, .int .u8 0, .int .u8 0, .int .u8 0, .int .u8 0, .int .u8 0, .int .u8 0, .int .u8 0, .int .u8 0, .int .u8 0, .int .u8 0, .int .u8 0, .int .i64 0, .int .i64 0, .int .i64 0, .int .i64 0] HRT.out HI2.out (by as_aux_lemma => kernel_rfl) (one_cells _) ?_
        refine hKq.out _ _ (HBA.out) (fun hHeld2 => ?_)
        clear hKq Kq hHeld
        have hHeld := hHeld2
        clear hHeld2
        simp only [Act.put, List.setIfInBounds_toArray, List.set_cons_zero, List.set_cons_succ]
        refine wpAnyH_take (i := 10) (v := v2) rfl (by kernel_rfl) (by kernel_rfl) (by kernel_rfl) (fun _ _ _ h => h) (Or.inl ⟨by rfl, by intro w hSw; clear hHeld hSw; go_simp; (try rfl)⟩) (by assumption) ?_
        simp only [Act.put, List.setIfInBounds_toArray, List.set_cons_zero, List.set_cons_succ, List.getElem_toArray, List.getElem_cons_succ, List.getElem_cons_zero]
        refine wpAnyH_take (i := 11) (v := .int .i64 0) rfl (by kernel_rfl) (by kernel_rfl) (by kernel_rfl) (fun _ _ _ h => h) (Or.inl ⟨by rfl, by intro w hSw; clear hHeld hSw; go_simp; (try rfl)⟩) (by assumption) ?_
        simp only [Act.put, List.setIfInBounds_toArray, List.set_cons_zero, List.set_cons_succ, List.getElem_toArray, List.getElem_cons_succ, List.getElem_cons_zero]
        clear hHeld
        refine wpAnyH_done (by kernel_rfl) ?_ _
        have HT : wq.heap.size ≤ wo.heap.size ∧ (w1.setRow (wo.heap.size) k2.cells).heap[wo.heap.size]? = some (.cells k2.cells 27) ∧ Below wq.heap.size wq (w1.setRow (wo.heap.size) k2.cells) ∧ ListOk (fun b => wq.heap.size ≤ b) (w1.setRow (wo.heap.size) k2.cells) v2 [msgOf 1 9 0, msgOf 2 9 7] := ⟨HTA, setRow_heap _ _ _ _ _ _ HRT.out, HBA.out, ((hO.setRow (wo.heap.size) HTL k2.cells).listOk F2.out (Nat.le_trans f3 (by unfold maxLen; decide))).mono (fun b q => Nat.le_trans HSZ0 q)⟩
        go_wp2_with fail
        go_meet
        case rel => exact ⟨_, _, rfl, rfl, rfl, HT⟩
    · intro Kq hKq
      simp only [List.getElem_toArray, List.getElem_cons_succ, List.getElem_cons_zero]
      rw [if_pos (by rfl)]
      have HTA : wq.heap.size ≤ wq.heap.size := hHeld.size
      refine wp_op_value (.pointer (some ⟨wq.heap.size, 0, none⟩)) (wq.drew.alloc (.cells #[.int .u8 0, .int .u8 0, .int .u8 0, .int .u8 0, .int .u8 0, .int .u8 0, .int .u8 0, .int .u8 0, .int .u8 0, .int .u8 0, .int .u8 0, .int .u8 0, .int .u8 0, .int .i64 0, .int .i64 0, .int .i64 0, .int .i64 0] 27)) (by as_aux_lemma => kernel_rfl) ?_
      refine hKq.out _ _ ((hHeld.alloc hHeld.size _)) (fun hHeld2 => ?_)
      clear hKq Kq hHeld
      have hHeld := hHeld2
      clear hHeld2
      simp only [Act.put, List.setIfInBounds_toArray, List.set_cons_zero, List.set_cons_succ]
      refine wpAnyH_ready (rs := [2]) (by kernel_rfl) (by simp) ?_
      refine AllReadyH.cons (i := 2) (rs := []) rfl ?_ AllReadyH.nil
      intro Kq hKq
      simp only [List.getElem_toArray, List.getElem_cons_succ, List.getElem_cons_zero]
      rw [if_pos (by rfl)]
      refine wp_call_fn 34 #[.int .i64 7] (_) (by as_aux_lemma => kernel_rfl) (open_any 7 (by decide) (by decide) _) ?_
      rintro e wo ⟨mv, rfl, hM, hbo⟩
      refine ⟨mv, rfl, ?_⟩
      refine hKq.out _ _ ((hHeld.trans (hbo.mono hHeld.size))) (fun hHeld2 => ?_)
      clear hKq Kq hHeld
      have hHeld := hHeld2
      clear hHeld2
      simp only [Act.put, List.setIfInBounds_toArray, List.set_cons_zero, List.set_cons_succ]
      have HRO := Lib.hid (row_below hbo (heap_alloc_new _ _))
      have HMI := Lib.hid (hM.read (msgOf_ok 1 7 0 (by decide)).2)
      refine wpAnyH_ready (rs := [3]) (by kernel_rfl) (by simp) ?_
      refine AllReadyH.cons (i := 3) (rs := []) rfl ?_ AllReadyH.nil
      intro Kq hKq
      simp only [List.getElem_toArray, List.getElem_cons_succ, List.getElem_cons_zero]
      rw [if_pos (by rfl)]
      have HSZ0 : wq.heap.size ≤ (wo).heap.size := hHeld.size
      refine wp_call_fn 20 #[.agg K1.cells, mv, .int .i64 0] (_) (by as_aux_lemma => kernel_rfl) (CH.out _ mv HMI.out) ?_
      rintro e w1 ⟨v2, rfl, hO, hb⟩
      refine ⟨.tuple #[.agg k2.cells, v2, .int .i64 0], rfl, ?_⟩
      have HB1 := Lib.hid (hHeld.trans (hb.mono HSZ0))
      have HBZ : wq.heap.size ≤ w1.heap.size := HB1.out.size
      refine hKq.out _ _ (HB1.out) (fun hHeld2 => ?_)
      clear hKq Kq hHeld
      have hHeld := hHeld2
      clear hHeld2
      simp only [Act.put, List.setIfInBounds_toArray, List.set_cons_zero, List.set_cons_succ]
      have HRT := Lib.hid (row_below hb HRO.out)
      have HTL : wq.heap.size < (wo).heap.size := by (try simp only [World.size_alloc, drew_heap]); first | omega | (have := hbo.size; simp only [World.size_alloc, drew_heap] at this; omega)
      refine wpAnyH_take (i := 4) (v := .tuple #[.agg k2.cells, v2, .int .i64 0]) rfl (by kernel_rfl) (by kernel_rfl) (by kernel_rfl) (fun _ _ _ h => h) (Or.inl ⟨by rfl, by intro w hSw; clear hHeld hSw; go_simp; (try rfl)⟩) (by assumption) ?_
      simp only [Act.put, List.setIfInBounds_toArray, List.set_cons_zero, List.set_cons_succ, List.getElem_toArray, List.getElem_cons_succ, List.getElem_cons_zero]
      refine wpAnyH_take (i := 5) (v := .agg k2.cells) rfl (by kernel_rfl) (by kernel_rfl) (by kernel_rfl) (fun _ _ _ h => h) (Or.inl ⟨by rfl, by intro w hSw; clear hHeld hSw; go_simp; (try rfl)⟩) (by assumption) ?_
      simp only [Act.put, List.setIfInBounds_toArray, List.set_cons_zero, List.set_cons_succ, List.getElem_toArray, List.getElem_cons_succ, List.getElem_cons_zero]
      refine wpAnyH_take (i := 6) (v := v2) rfl (by kernel_rfl) (by kernel_rfl) (by kernel_rfl) (fun _ _ _ h => h) (Or.inl ⟨by rfl, by intro w hSw; clear hHeld hSw; go_simp; (try rfl)⟩) (by assumption) ?_
      simp only [Act.put, List.setIfInBounds_toArray, List.set_cons_zero, List.set_cons_succ, List.getElem_toArray, List.getElem_cons_succ, List.getElem_cons_zero]
      refine wpAnyH_take (i := 7) (v := .int .i64 0) rfl (by kernel_rfl) (by kernel_rfl) (by kernel_rfl) (fun _ _ _ h => h) (Or.inl ⟨by rfl, by intro w hSw; clear hHeld hSw; go_simp; (try rfl)⟩) (by assumption) ?_
      simp only [Act.put, List.setIfInBounds_toArray, List.set_cons_zero, List.set_cons_succ, List.getElem_toArray, List.getElem_cons_succ, List.getElem_cons_zero]
      have HBA := Lib.hid (show Below wq.heap.size wq (w1.setRow (wq.heap.size) k2.cells) from below_setRow' HB1.out HTA _)
      refine wpAnyH_ready (rs := [9]) (by kernel_rfl) (by simp) ?_
      refine AllReadyH.cons (i := 9) (rs := []) rfl ?_ AllReadyH.nil
      intro Kq hKq
      simp only [List.getElem_toArray, List.getElem_cons_succ, List.getElem_cons_zero]
      rw [if_pos (by rfl)]
      refine wp_store_row 27 (.tmp 6) (.tmp 25) (by rfl) (wq.heap.size) k2.cells (by as_aux_lemma => kernel_rfl) (by as_aux_lemma => kernel_rfl) 27 #[.int .u8 0, .int .u8 0, .int .u8 0, .int .u8 0, .int .u8 0, .int .u8 0, .int .u8 0, .int .u8 0, .int .u8 0, .int .u8 0, .int .u8 0, .int .u8 0, .int .u8 0, .int .i64 0, .int .i64 0, .int .i64 0, .int .i64 0] HRT.out HI2.out (by as_aux_lemma => kernel_rfl) (one_cells _) ?_
      refine hKq.out _ _ (HBA.out) (fun hHeld2 => ?_)
      clear hKq Kq hHeld
      have hHeld := hHeld2
      clear hHeld2
      simp only [Act.put, List.setIfInBounds_toArray, List.set_cons_zero, List.set_cons_succ]
      refine wpAnyH_take (i := 10) (v := v2) rfl (by kernel_rfl) (by kernel_rfl) (by kernel_rfl) (fun _ _ _ h => h) (Or.inl ⟨by rfl, by intro w hSw; clear hHeld hSw; go_simp; (try rfl)⟩) (by assumption) ?_
      simp only [Act.put, List.setIfInBounds_toArray, List.set_cons_zero, List.set_cons_succ, List.getElem_toArray, List.getElem_cons_succ, List.getElem_cons_zero]
      refine wpAnyH_take (i := 11) (v := .int .i64 0) rfl (by kernel_rfl) (by kernel_rfl) (by kernel_rfl) (fun _ _ _ h => h) (Or.inl ⟨by rfl, by intro w hSw; clear hHeld hSw; go_simp; (try rfl)⟩) (by assumption) ?_
      simp only [Act.put, List.setIfInBounds_toArray, List.set_cons_zero, List.set_cons_succ, List.getElem_toArray, List.getElem_cons_succ, List.getElem_cons_zero]
      clear hHeld
      refine wpAnyH_done (by kernel_rfl) ?_ _
      have HT : wq.heap.size ≤ wq.heap.size ∧ (w1.setRow (wq.heap.size) k2.cells).heap[wq.heap.size]? = some (.cells k2.cells 27) ∧ Below wq.heap.size wq (w1.setRow (wq.heap.size) k2.cells) ∧ ListOk (fun b => wq.heap.size ≤ b) (w1.setRow (wq.heap.size) k2.cells) v2 [msgOf 1 9 0, msgOf 2 9 7] := ⟨HTA, setRow_heap _ _ _ _ _ _ HRT.out, HBA.out, ((hO.setRow (wq.heap.size) HTL k2.cells).listOk F2.out (Nat.le_trans f3 (by unfold maxLen; decide))).mono (fun b q => Nat.le_trans HSZ0 q)⟩
      go_wp2_with fail
      go_meet
      case rel => exact ⟨_, _, rfl, rfl, rfl, HT⟩
  case rest =>
    obtain ⟨T, v2, rfl, rfl, rfl, hT, rT, hb, lx⟩ := hcut
    obtain ⟨ao7, n7, c7, rfl⟩ : ∃ ao n c, u7 = .slice ao n c := by obtain ⟨ao, c, e, _⟩ := lx; exact ⟨ao, _, c, e⟩
    have LY := Lib.hid lx.listIn
    have RB := Lib.hid rT
    clear lx rT
    have RSwc := Lib.hid (show wc.heap[w1.heap.size]? = some (.cells (pairCells K0 K1) 28) from row_below hb RSwq.out)
    have RAwc := Lib.hid (show wc.heap[w2.heap.size]? = some (.cells kA.cells 27) from row_below hb RAwq.out)
    have LXwc := Lib.hid (show ListIn wc v1 [msgOf 1 7 0] from ListIn.below LXwq.out hb)
    have HBwc := Lib.hid (Below.trans HBwq.out (hb.mono (by (try simp only [World.size_alloc, size_setRow]); omega)))
    have hzwc := HBwc.out.size
    clear hb
    go_wp2_with (fail)
    refine (open_any 7 (by decide) (by decide) _).mono ?_
    rintro e w4 ⟨m4, rfl, hM, hb⟩
    have RSw4 := Lib.hid (show w4.heap[w1.heap.size]? = some (.cells (pairCells K0 K1) 28) from row_below hb RSwc.out)
    have RAw4 := Lib.hid (show w4.heap[w2.heap.size]? = some (.cells kA.cells 27) from row_below hb RAwc.out)
    have RBw4 := Lib.hid (show w4.heap[T]? = some (.cells k2.cells 27) from row_below hb RB.out)
    have LXw4 := Lib.hid (show ListIn w4 v1 [msgOf 1 7 0] from ListIn.below LXwc.out hb)
    have LYw4 := Lib.hid (show ListIn w4 (.slice ao7 n7 c7) [msgOf 1 9 0, msgOf 2 9 7] from ListIn.below LY.out hb)
    have HBw4 := Lib.hid (Below.trans HBwc.out (hb.mono (by (try simp only [World.size_alloc, size_setRow]); omega)))
    have hzw4 := HBw4.out.size
    clear hb
    obtain ⟨b4, rfl⟩ := msg_form hM rfl
    have HM4 := Lib.hid (hM.read (msgOf_ok 1 7 0 (by decide)).2)
    clear hM
    go_wp2_with (fail)
    refine (same_yes v1 (.slice (some ⟨w4.heap.size, 0, none⟩) 1 1) _ _ rfl _ (ListIn.below LXw4.out ((Below.refl _ _).alloc (Nat.le_refl _) _)) (list_one (heap_alloc_at rfl) (HM4.out.below ((Below.refl _ _).alloc (Nat.le_refl _) _)) (by show 5 ≤ maxLen; unfold maxLen; decide))).mono ?_
    rintro e w5 ⟨rfl, hb⟩
    have RSw5 := Lib.hid (show w5.heap[w1.heap.size]? = some (.cells (pairCells K0 K1) 28) from row_below hb (row_alloc RSw4.out))
    have RAw5 := Lib.hid (show w5.heap[w2.heap.size]? = some (.cells kA.cells 27) from row_below hb (row_alloc RAw4.out))
    have RBw5 := Lib.hid (show w5.heap[T]? = some (.cells k2.cells 27) from row_below hb (row_alloc RBw4.out))
    have RMw5 := Lib.hid (show w5.heap[w4.heap.size]? = some (.cells #[.slice (some ⟨b4, 0, none⟩) 5 5] 45) from row_below hb (heap_alloc_at rfl))
    have LXw5 := Lib.hid (show ListIn w5 v1 [msgOf 1 7 0] from ListIn.below (ListIn.below LXw4.out ((Below.refl _ _).alloc (Nat.le_refl _) _)) hb)
    have LYw5 := Lib.hid (show ListIn w5 (.slice ao7 n7 c7) [msgOf 1 9 0, msgOf 2 9 7] from ListIn.below (ListIn.below LYw4.out ((Below.refl _ _).alloc (Nat.le_refl _) _)) hb)
    have HBw5 := Lib.hid (Below.trans (Below.alloc HBw4.out (by omega) _) (hb.mono (by (try simp only [World.size_alloc, size_setRow]); omega)))
    have hzw5 := HBw5.out.size
    clear hb
    go_wp2_with (fail)
    refine (open_any 9 (by decide) (by decide) _).mono ?_
    rintro e w6 ⟨m6, rfl, hM, hb⟩
    have RSw6 := Lib.hid (show w6.heap[w1.heap.size]? = some (.cells (pairCells K0 K1) 28) from row_below hb RSw5.out)
    have RAw6 := Lib.hid (show w6.heap[w2.heap.size]? = some (.cells kA.cells 27) from row_below hb RAw5.out)
    have RBw6 := Lib.hid (show w6.heap[T]? = some (.cells k2.cells 27) from row_below hb RBw5.out)
    have LYw6 := Lib.hid (show ListIn w6 (.slice ao7 n7 c7) [msgOf 1 9 0, msgOf 2 9 7] from ListIn.below LYw5.out hb)
    have HBw6 := Lib.hid (Below.trans HBw5.out (hb.mono (by (try simp only [World.size_alloc, size_setRow]); omega)))
    have hzw6 := HBw6.out.size
    clear hb
    obtain ⟨b6, rfl⟩ := msg_form hM rfl
    have HM6 := Lib.hid (hM.read (msgOf_ok 1 9 0 (by decide)).2)
    clear hM
    go_wp2_with (fail)
    refine (confirm_any 9 7 (by decide) (by decide) (by decide) (by decide) _).mono ?_
    rintro e w7 ⟨m7, rfl, hM, hb⟩
    have HM6b := Lib.hid (HM6.out.below hb)
    have RSw7 := Lib.hid (show w7.heap[w1.heap.size]? = some (.cells (pairCells K0 K1) 28) from row_below hb RSw6.out)
    have RAw7 := Lib.hid (show w7.heap[w2.heap.size]? = some (.cells kA.cells 27) from row_below hb RAw6.out)
    have RBw7 := Lib.hid (show w7.heap[T]? = some (.cells k2.cells 27) from row_below hb RBw6.out)
    have LYw7 := Lib.hid (show ListIn w7 (.slice ao7 n7 c7) [msgOf 1 9 0, msgOf 2 9 7] from ListIn.below LYw6.out hb)
    have HBw7 := Lib.hid (Below.trans HBw6.out (hb.mono (by (try simp only [World.size_alloc, size_setRow]); omega)))
    have hzw7 := HBw7.out.size
    clear hb
    obtain ⟨b7, rfl⟩ := msg_form hM rfl
    have HM7 := Lib.hid (hM.read (msgOf_ok 2 9 7 (by decide)).2)
    clear hM HM6
    go_wp2_with (fail)
    refine (same_yes (.slice ao7 n7 c7) (.slice (some ⟨w7.heap.size, 0, none⟩) 2 2) _ _ rfl _ (ListIn.below LYw7.out ((Below.refl _ _).alloc (Nat.le_refl _) _)) (list_two (heap_alloc_at rfl) (HM6b.out.below ((Below.refl _ _).alloc (Nat.le_refl _) _)) (HM7.out.below ((Below.refl _ _).alloc (Nat.le_refl _) _)) (by show 5 ≤ maxLen; unfold maxLen; decide) (by show 5 ≤ maxLen; unfold maxLen; decide))).mono ?_
    rintro e w8 ⟨rfl, hb⟩
    have RSw8 := Lib.hid (show w8.heap[w1.heap.size]? = some (.cells (pairCells K0 K1) 28) from row_below hb (row_alloc RSw7.out))
    have RAw8 := Lib.hid (show w8.heap[w2.heap.size]? = some (.cells kA.cells 27) from row_below hb (row_alloc RAw7.out))
    have RBw8 := Lib.hid (show w8.heap[T]? = some (.cells k2.cells 27) from row_below hb (row_alloc RBw7.out))
    have RMw8 := Lib.hid (show w8.heap[w7.heap.size]? = some (.cells #[.slice (some ⟨b6, 0, none⟩) 5 5, .slice (some ⟨b7, 0, none⟩) 5 5] 45) from row_below hb (heap_alloc_at rfl))
    have LYw8 := Lib.hid (show ListIn w8 (.slice ao7 n7 c7) [msgOf 1 9 0, msgOf 2 9 7] from ListIn.below (ListIn.below LYw7.out ((Below.refl _ _).alloc (Nat.le_refl _) _)) hb)
    have HBw8 := Lib.hid (Below.trans (Below.alloc HBw7.out (by omega) _) (hb.mono (by (try simp only [World.size_alloc, size_setRow]); omega)))
    have hzw8 := HBw8.out.size
    clear hb
    go_wp2_with (first
      | (with_reducible refine wpList_load_row rfl 27 (.tmp 3) rfl (w2.heap.size) rfl 27 (kA.cells) (0, 0) _ RAw8.out Try.underlying27 rfl HIA.out ?_)
      | (with_reducible refine wpList_load_row rfl 27 (.tmp 6) rfl (T) rfl 27 (k2.cells) (0, 0) _ RBw8.out Try.underlying27 rfl HI2.out ?_)
      | (with_reducible refine wpList_runTo rfl (some 56) rfl (.agg (pairCells kA k2)) w8 (by as_aux_lemma => kernel_rfl) ?_; simp only [Act.put, List.setIfInBounds_toArray, List.set_cons_succ, List.set_cons_zero]))
    refine (passed_of HP.out (.slice none 0 0) (.slice ao7 n7 c7) byA byB (fun m hm => by cases hm) F2.out (by decide) _ (listIn_nil _) LYw8.out).mono ?_
    rintro e w9 ⟨rfl, hb⟩
    have RSw9 := Lib.hid (show w9.heap[w1.heap.size]? = some (.cells (pairCells K0 K1) 28) from row_below hb RSw8.out)
    have RAw9 := Lib.hid (show w9.heap[w2.heap.size]? = some (.cells kA.cells 27) from row_below hb RAw8.out)
    have RBw9 := Lib.hid (show w9.heap[T]? = some (.cells k2.cells 27) from row_below hb RBw8.out)
    have LYw9 := Lib.hid (show ListIn w9 (.slice ao7 n7 c7) [msgOf 1 9 0, msgOf 2 9 7] from ListIn.below LYw8.out hb)
    have HBw9 := Lib.hid (Below.trans HBw8.out (hb.mono (by (try simp only [World.size_alloc, size_setRow]); omega)))
    have hzw9 := HBw9.out.size
    clear hb
    go_wp2_with (first
      | ((with_reducible refine wpList_store_rowTo rfl 28 (.tmp 1) (.tmp 60) rfl rfl (w1.heap.size) (pairCells pa pb) ?_ ?_ 28 ((pairCells K0 K1)) RSw9.out HIQ.out rfl (pair_one _ _) ?_); (as_aux_lemma => kernel_rfl); (as_aux_lemma => kernel_rfl))
      | ((with_reducible refine wpList_load_subG ?_ 28 (.tmp 1) rfl w1.heap.size 0 rfl (pairCells pa pb) _ (range_row (setRow_heap _ _ _ _ _ _ RSw9.out)) Try.underlying28 rfl HIQ.out ?_); (as_aux_lemma => kernel_rfl)))
    refine (paired_any pa pb _).mono ?_
    rintro e wz ⟨rfl, hb⟩
    have RSwz := Lib.hid (show wz.heap[w1.heap.size]? = some (.cells (pairCells pa pb) 28) from row_below hb (setRow_heap _ _ _ _ _ _ RSw9.out))
    have HBwz := Lib.hid (Below.trans (below_setRow' HBw9.out (by omega) _) (hb.mono (by (try simp only [World.size_alloc, size_setRow]); omega)))
    have hzwz := HBwz.out.size
    clear hb
    simp only [HPP.out]
    go_wp2
    go_ret
    exact ⟨rfl, HBwz.out⟩
end Go.Proofs.Ytmighkgjbohieaa
