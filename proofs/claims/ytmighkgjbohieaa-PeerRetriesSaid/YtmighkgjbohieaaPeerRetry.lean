/-
  The walk of PeerRetries: an end that hears nothing sends its open three times, closes, and is Idle again with the next identifier.
-/
import Derived.Test.YtmighkgjbohieaaPeerOpen
import Derived.Deep.LoopGhost
set_option linter.unusedVariables false
set_option linter.unusedSimpArgs false
namespace Go.Proofs.Ytmighkgjbohieaa.peerRetries
open Go.ChangeShapes Go.WideShapes Go.ChangeAt Go.RowKit Go.Great

/-- The link ahead of tick k, the last time being N. -/
def stAt (id : Int) (k : Nat) (N : Int) : Lk := if k ≤ 2 then LA 1 id 0 (k + 1) (N + 40000) else if k = 3 then LA 5 id 0 0 (N + 40000) else LA 0 (id % 65535 + 1) 0 0 0
theorem stAt_by {id : Int} {k : Nat} {N : Int} : (stAt id k N).By := by
  simp only [stAt]
  split
  · exact LA_by
  · split <;> exact LA_by
theorem retry {id : Int} (hi : 1 ≤ id ∧ id ≤ 65535) {k : Nat} {N z : Int} (hN : 0 ≤ N ∧ N ≤ 100000000) (hz : 40000 ≤ z ∧ z ≤ 1000000) : ∃ ms, pTick (stAt id k N) (N + z) = (stAt id (k + 1) (N + z), ms, 0) ∧
    (k < 2 → ms = [msgOf 1 id 0] ∧ (stAt id (k + 1) (N + z)).st = 1 ∧ (stAt id (k + 1) (N + z)).tr = k + 2) ∧ (k = 2 → ms = [msgOf 3 id 0] ∧ (stAt id (k + 1) (N + z)).st = 5) ∧
    (2 < k → ms = [] ∧ (stAt id (k + 1) (N + z)).st = 0 ∧ (stAt id (k + 1) (N + z)).id = id % 65535 + 1) := by
  have t := tin_of (now := N + z) (by omega) (by omega)
  by_cases h2 : k < 2
  · have e : stAt id k N = LA 1 id 0 (k + 1) (N + 40000) := if_pos (by omega)
    have e' : stAt id (k + 1) (N + z) = LA 1 id 0 ((k : Int) + 1 + 1) (N + z + 40000) := if_pos (by omega)
    refine ⟨[msgOf 1 id 0], ?_, fun _ => ⟨rfl, by rw [e']; rfl, by rw [e']; show (k : Int) + 1 + 1 = k + 2; omega⟩, fun h => by omega, fun h => by omega⟩
    rw [e, e', pTick, guard_ok (LA_chk (shape1 rfl rfl (by show 1 ≤ (k : Int) + 1 ∧ (k : Int) + 1 ≤ 3; omega) (by show 1 ≤ N + 40000 ∧ N + 40000 ≤ 1099511667776; omega)) hi) t, if_neg (by show ¬ (N + 40000 = 0 ∨ N + z < N + 40000); omega),
      if_neg (by show ¬ (1 : Int) = 5; decide), if_neg (by show ¬ ((k : Int) + 1 = 3); omega), if_neg (by show ¬ (1 : Int) = 3; decide)]
    rfl
  by_cases h3 : k = 2
  · subst h3
    have e : stAt id 2 N = LA 1 id 0 3 (N + 40000) := rfl
    have e' : stAt id 3 (N + z) = LA 5 id 0 0 (N + z + 40000) := rfl
    refine ⟨[msgOf 3 id 0], ?_, fun h => absurd h h2, fun _ => ⟨rfl, rfl⟩, fun h => by omega⟩
    rw [e, e', pTick, guard_ok (LA_chk (shape1 rfl rfl (show (1 : Int) ≤ 3 ∧ (3 : Int) ≤ 3 by decide) (by show 1 ≤ N + 40000 ∧ N + 40000 ≤ 1099511667776; omega)) hi) t, if_neg (by show ¬ (N + 40000 = 0 ∨ N + z < N + 40000); omega),
      if_neg (by show ¬ (1 : Int) = 5; decide), if_pos (by rfl)]
    rfl
  by_cases h4 : k = 3
  · subst h4
    have e : stAt id 3 N = LA 5 id 0 0 (N + 40000) := rfl
    have e' : stAt id 4 (N + z) = LA 0 (id % 65535 + 1) 0 0 0 := rfl
    exact ⟨[], by rw [e, e']; exact a_tick5 hi (by decide) (by omega) (by omega) (by omega) (by omega), fun h => by omega, fun h => by omega, fun _ => ⟨rfl, rfl, rfl⟩⟩
  · have e : stAt id k N = LA 0 (id % 65535 + 1) 0 0 0 := by simp only [stAt, if_neg (show ¬ k ≤ 2 by omega), if_neg h4]
    have e' : stAt id (k + 1) (N + z) = LA 0 (id % 65535 + 1) 0 0 0 := by simp only [stAt, if_neg (show ¬ k + 1 ≤ 2 by omega), if_neg (show ¬ k + 1 = 3 by omega)]
    refine ⟨[], ?_, fun h => absurd h h2, fun h => absurd h h3, fun _ => ⟨rfl, by rw [e']; rfl, by rw [e']; rfl⟩⟩
    rw [e, e', pTick, guard_ok (LA_chk (shape0 rfl rfl rfl rfl) (by omega)) t, if_pos (.inl rfl)]
theorem lk_id (k : Lk) : k.cells[13]? = some (.int .i64 k.id) := rfl
def BoolR (w : World) (e : Ending) (w' : World) : Prop := e = .returned (.bool true) ∧ Below w.heap.size w w'
theorem ends_in {id other : Int} (hi : 1 ≤ id ∧ id ≤ 65535) (ho : 1 ≤ other ∧ other ≤ 65535) (w : World) : Calls Try.prog 11 #[.int .i64 id, .int .i64 other] w fun e w' => e = .returned (.tuple #[.agg (pairCells (LA 0 id 0 0 0) (LB 0 other 0 0 0)), .bool true]) ∧ Below w.heap.size w w' := by
  have h := ends_any id other w
  rw [k0_is hi, k1_is ho, show (inB id && inB other) = true by rw [inB, inB, btw_iff.2 hi, btw_iff.2 ho]; rfl] at h
  exact h
theorem IntsIn.below {w w' : World} {v : Value} {n : Nat} {Z : Nat → Int} (h : IntsIn w v n Z) (hb : Below w.heap.size w w') : IntsIn w' v n Z := by
  obtain ⟨ao, cap, rfl, h1, h2, h3⟩ := h
  refine ⟨ao, cap, rfl, h1, h2, fun h0 => ?_⟩
  obtain ⟨b, o, e, hc⟩ := h3 h0
  exact ⟨b, o, e, fun i hi => ⟨below_kept hb (hc i hi).1, (hc i hi).2⟩⟩
set_option maxRecDepth 100000 in
set_option maxHeartbeats 8000000 in
theorem out (id : Int) (v : Value) (n : Nat) (Z : Nat → Int) (hx : 10 < n ∨ (n ≤ 10 ∧ (inB id && inB 1) = false)) (w : World) (hE : IntsIn w v n Z) : Calls Try.prog 5 #[.int .i64 id, v] w (BoolR w) := by
  obtain ⟨ao, cap, rfl, hcap, hcm, hev⟩ := hE
  have HEV := Lib.hid hev
  clear hev
  have HC := Lib.hid (ends_any id 1)
  have HIP := Lib.hid (pair_info (k0 id) (k1 1))
  have HX := Lib.hid hx
  clear hx
  generalize hbb : (inB id && inB 1) = bb at *
  clear hbb
  go_enter Try.func5, Try.ntmps5
  go_wp2_with (fail)
  refine (alive_any _).mono ?_
  rintro e w1 ⟨rfl, hb⟩
  have HBw1 := Lib.hid (below_step (Below.refl w.heap.size w) hb)
  clear hb
  go_wp2_with (fail)
  refine (HC.out _).mono ?_
  rintro e w2 ⟨rfl, hb⟩
  have HBw2 := Lib.hid (below_step HBw1.out hb)
  clear hb
  rcases HX.out with hx | ⟨hx, rfl⟩
  · have hxz : (10 : Int) < n := by omega
    go_wp2_with (first
      | (with_reducible refine wpList_runTo rfl (some 6) rfl (.pointer (some ⟨w2.heap.size, 0, none⟩)) (w2.alloc (.cells zp 28)) (by as_aux_lemma => kernel_rfl) ?_; simp only [Act.put, List.setIfInBounds_toArray, List.set_cons_succ, List.set_cons_zero])
      | ((with_reducible refine wpList_store_rowTo rfl 28 (.tmp 6) (.tmp 21) rfl rfl (w2.heap.size) (pairCells (k0 id) (k1 1)) ?_ ?_ 28 zp (heap_alloc_at rfl) HIP.out rfl (pair_one _ _) ?_); (as_aux_lemma => kernel_rfl); (as_aux_lemma => kernel_rfl); rw [setRow_allocAt rfl]))
    go_ret
    exact ⟨rfl, below_more HBw2.out _⟩
  · have hxz : (n : Int) ≤ 10 := by omega
    go_wp2_with (first
      | (with_reducible refine wpList_runTo rfl (some 6) rfl (.pointer (some ⟨w2.heap.size, 0, none⟩)) (w2.alloc (.cells zp 28)) (by as_aux_lemma => kernel_rfl) ?_; simp only [Act.put, List.setIfInBounds_toArray, List.set_cons_succ, List.set_cons_zero])
      | ((with_reducible refine wpList_store_rowTo rfl 28 (.tmp 6) (.tmp 21) rfl rfl (w2.heap.size) (pairCells (k0 id) (k1 1)) ?_ ?_ 28 zp (heap_alloc_at rfl) HIP.out rfl (pair_one _ _) ?_); (as_aux_lemma => kernel_rfl); (as_aux_lemma => kernel_rfl); rw [setRow_allocAt rfl]))
    go_ret
    exact ⟨rfl, below_more HBw2.out _⟩
set_option maxRecDepth 100000 in
set_option maxHeartbeats 8000000 in
theorem in_ (id : Int) (v : Value) (n : Nat) (Z : Nat → Int) (hi : 1 ≤ id ∧ id ≤ 65535) (hn : n ≤ 10) (w : World) (hE : IntsIn w v n Z) : Calls Try.prog 5 #[.int .i64 id, v] w (BoolR w) := by
  obtain ⟨ao, cap, rfl, hcap, hcm, hev⟩ := hE
  have HEV := Lib.hid hev
  clear hev
  have HC := Lib.hid (ends_in hi (show (1 : Int) ≤ 1 ∧ (1 : Int) ≤ 65535 by decide))
  have hid0 : 0 ≤ id := by omega
  have hid1 : id ≤ 65535 := hi.2
  have hnz : (n : Int) ≤ 10 := by omega
  have HS := Lib.hid (fun W => ret_of (a_start (now := 0) hi (by decide) (by decide)) (start_any (LA 0 id 0 0 0) LA_by 0 W))
  have HA0 := Lib.hid (show LA 1 id 0 1 (0 + 40000) = stAt id 0 0 from rfl)
  generalize LA 1 id 0 1 (0 + 40000) = A1 at *
  generalize LA 0 id 0 0 0 = A0 at *
  generalize LB 0 1 0 0 0 = B0 at *
  have HIP := Lib.hid (pair_info A0 B0)
  have HIA := Lib.hid (link_info2 A0)
  have HI1 := Lib.hid (link_info2 A1)
  have g1 := msgOf_ok 1 id 0 (by decide)
  go_enter Try.func5, Try.ntmps5
  go_wp2_with (fail)
  refine (alive_any _).mono ?_
  rintro e w1 ⟨rfl, hb⟩
  have HBw1 := Lib.hid (below_step (Below.refl w.heap.size w) hb)
  clear hb
  go_wp2_with (fail)
  refine (HC.out _).mono ?_
  rintro e w2 ⟨rfl, hb⟩
  have HBw2 := Lib.hid (below_step HBw1.out hb)
  clear hb
  have gRS : w.heap.size ≤ w2.heap.size := by have hh := Below.size HBw2.out; exact hh
  go_wp2_with (first
    | (with_reducible refine wpList_runTo rfl (some 6) rfl (.pointer (some ⟨w2.heap.size, 0, none⟩)) (w2.alloc (.cells zp 28)) (by as_aux_lemma => kernel_rfl) ?_; simp only [Act.put, List.setIfInBounds_toArray, List.set_cons_succ, List.set_cons_zero])
    | ((with_reducible refine wpList_store_rowTo rfl 28 (.tmp 6) (.tmp 21) rfl rfl (w2.heap.size) (pairCells A0 B0) ?_ ?_ 28 zp (heap_alloc_at rfl) HIP.out rfl (pair_one _ _) ?_); (as_aux_lemma => kernel_rfl); (as_aux_lemma => kernel_rfl); rw [setRow_allocAt rfl])
    | ((with_reducible refine wpList_load_sub rfl 27 (.tmp 36) rfl (w2.heap.size) 0 rfl A0.cells _ (range_pair0 (heap_alloc_at rfl)) Try.underlying27 rfl HIA.out ?_)))
  refine (HS.out _).mono ?_
  rintro e w3 ⟨v1, rfl, hO, hb⟩
  have RSw3 := Lib.hid (show w3.heap[w2.heap.size]? = some (.cells (pairCells A0 B0) 28) from row_below hb (heap_alloc_at rfl))
  have lRSw3 : w2.heap.size < w3.heap.size := row_lt RSw3.out
  have HBw3 := Lib.hid (below_step (below_more HBw2.out (.cells (pairCells A0 B0) 28)) hb)
  clear hb
  have hl := (hO.read (one_ok g1) (Nat.le_trans (show 1 ≤ 2 by decide) (by unfold maxLen; decide))).ok
  obtain ⟨aoX, cX, rfl, q1, q2, q3⟩ := hl
  have LX := Lib.hid (show ListOk (fun b => b < w3.heap.size) w3 (.slice aoX 1 cX) [msgOf 1 id 0] from ⟨aoX, cX, rfl, q1, q2, q3⟩)
  clear hO q1 q2 q3
  have gRA : w.heap.size ≤ w3.heap.size := by have hh := Below.size HBw3.out; exact hh
  go_wp2_with ((with_reducible refine wpList_store_rowTo rfl 27 (.tmp 9) (.tmp 40) rfl rfl (w3.heap.size) (A1.cells) ?_ ?_ 27 #[.int .u8 0, .int .u8 0, .int .u8 0, .int .u8 0, .int .u8 0, .int .u8 0, .int .u8 0, .int .u8 0, .int .u8 0, .int .u8 0, .int .u8 0, .int .u8 0, .int .u8 0, .int .i64 0, .int .i64 0, .int .i64 0, .int .i64 0] (heap_alloc_at rfl) HI1.out rfl (one_cells _) ?_); (as_aux_lemma => kernel_rfl); (as_aux_lemma => kernel_rfl); rw [setRow_allocAt rfl])
  have HBL := Lib.hid (below_more HBw3.out (.cells A1.cells 27))
  have RAL := Lib.hid (show ((w3.alloc (.cells A1.cells 27))).heap[w3.heap.size]? = some (.cells A1.cells 27) from (heap_alloc_at rfl))
  have LXL := Lib.hid (show ListOk (fun b => b < w3.heap.size) (w3.alloc (.cells A1.cells 27)) (.slice aoX 1 cX) [msgOf 1 id 0] from LX.out.keep (kept_below ((Below.refl _ _).alloc (Nat.le_refl _) _)))
  have hw3 : w.heap.size ≤ w3.heap.size := HBw3.out.size
  go_loopg [8, 12] n (fun g now i wr => ∃ (k : Nat) (N : Int), k ≤ n ∧ g = n - k ∧ i = .int .i64 k ∧ now = .int .i64 N ∧ (0 ≤ N ∧ N ≤ 1000000 * k) ∧ Below w.heap.size w wr ∧ wr.heap[w3.heap.size]? = some (.cells (stAt id k N).cells 27) ∧ ListOk (fun b => b < w3.heap.size) wr (.slice aoX 1 cX) [msgOf 1 id 0])
  case atStart => exact ⟨0, 0, by omega, by omega, rfl, rfl, by omega, HBL.out, HA0.out ▸ RAL.out, LXL.out⟩
  case round =>
    clear HBL RAL LXL LX HA0 HI1 HIA HIP HS HC
    obtain ⟨k, N, hk, rfl, rfl, rfl, ⟨hN0, hN1⟩, hbr, rA, lX⟩ := hrel
    have HBR := Lib.hid hbr
    have RA := Lib.hid rA
    have LX := Lib.hid lX
    clear hbr rA lX
    by_cases hlt : k < n
    · obtain ⟨b, o, rfl, hc⟩ := HEV.out (by omega)
      have c0 := below_kept HBR.out (hc k hlt).1
      have cb := (hc k hlt).2
      clear hc
      generalize Z k = z at *
      have hlz : (k : Int) < n := by omega
      have hk0 : (0 : Int) ≤ k := by omega
      have hN2 : N ≤ 100000000 := by omega
      by_cases z0 : z < 40000
      · go_wp2
        go_ret
        exact ⟨rfl, HBR.out⟩
      by_cases z1 : 1000000 < z
      · go_wp2
        go_ret
        exact ⟨rfl, HBR.out⟩
      obtain ⟨ms, hr, f1, f2, f3⟩ := retry hi (k := k) (N := N) (z := z) ⟨hN0, hN2⟩ ⟨by omega, by omega⟩
      have CT := Lib.hid (fun W => ret_of hr (tick_any (stAt id k N) stAt_by (N + z) W))
      clear hr
      generalize stAt id k N = A at *
      have HNX := Lib.hid (show stAt id (k + 1) (N + z) = stAt id (k + 1) (N + z) from rfl)
      generalize hB : stAt id (k + 1) (N + z) = B at CT f1 f2 f3
      have HBE := Lib.hid hB
      clear hB HNX
      have HIA := Lib.hid (link_info2 A)
      have HIB := Lib.hid (link_info2 B)
      have hz3 : w3.heap.size < wr.heap.size := row_lt RA.out
      go_wp2_with (with_reducible refine wpList_load_row rfl 27 (.tmp 9) rfl w3.heap.size rfl 27 A.cells (0, 0) _ RA.out Try.underlying27 rfl HIA.out ?_)
      refine (CT.out _).mono ?_
      rintro e x1 ⟨v2, rfl, hO, hb⟩
      have R1 := Lib.hid (row_below hb RA.out)
      have L1 := Lib.hid (LX.out.keep (kept_below hb))
      have HB1 := Lib.hid (below_step HBR.out hb)
      have hz4 : w3.heap.size < x1.heap.size := row_lt R1.out
      clear hb LX RA HBR CT c0
      by_cases hk2 : k < 2
      · obtain ⟨rfl, e1, e2⟩ := f1 hk2
        have MOK := one_ok g1
        have hkz : (k : Int) < 2 := by omega
        have hl := hO.read MOK (Nat.le_trans (show 1 ≤ 2 by decide) (by unfold maxLen; decide))
        obtain ⟨ao2, cc2, rfl, q1, q2, q3⟩ := hl
        have LM := Lib.hid (show ListIn x1 (.slice ao2 1 cc2) [msgOf 1 id 0] from ⟨ao2, cc2, rfl, q1, q2, q3⟩)
        clear hO q1 q2 q3
        have RBX := Lib.hid (heap_alloc_new x1 (.cells B.cells 27))
        have RAX := Lib.hid (row_alloc (o := .cells B.cells 27) R1.out)
        have LXX := Lib.hid (L1.out.keep (kept_below ((Below.refl x1.heap.size x1).alloc (Nat.le_refl _) (.cells B.cells 27))))
        have HBX := Lib.hid (below_more HB1.out (.cells B.cells 27))
        have LMX := Lib.hid (LM.out.below ((Below.refl x1.heap.size x1).alloc (Nat.le_refl _) (.cells B.cells 27)))
        go_wp2_with ((with_reducible refine wpList_store_rowTo rfl 27 (.tmp 13) (.tmp 79) rfl rfl x1.heap.size B.cells ?_ ?_ 27 #[.int .u8 0, .int .u8 0, .int .u8 0, .int .u8 0, .int .u8 0, .int .u8 0, .int .u8 0, .int .u8 0, .int .u8 0, .int .u8 0, .int .u8 0, .int .u8 0, .int .u8 0, .int .i64 0, .int .i64 0, .int .i64 0, .int .i64 0] (heap_alloc_new _ _) HIB.out rfl (one_cells _) ?_); (as_aux_lemma => kernel_rfl); (as_aux_lemma => kernel_rfl); rw [setRow_alloc])
        refine (same_yes (.slice ao2 1 cc2) (.slice aoX 1 cX) _ _ rfl _ LMX.out LXX.out.listIn).mono ?_
        rintro e x2 ⟨rfl, hb⟩
        have RBX := Lib.hid (row_below hb RBX.out)
        have RAX := Lib.hid (row_below hb RAX.out)
        have LXX := Lib.hid (LXX.out.keep (kept_below hb))
        have HBX := Lib.hid (below_step HBX.out hb)
        clear hb
        have z12 : x2.cell? ⟨x1.heap.size, 12, none⟩ = some (.int .u8 1) := by rw [cell_of_row _ _ _ _ _ _ RBX.out, lk_st, e1]
        have z15 : x2.cell? ⟨x1.heap.size, 15, none⟩ = some (.int .i64 (k + 2)) := by rw [cell_of_row _ _ _ _ _ _ RBX.out, lk_tr, e2]
        go_wp2_with (first
          | (with_reducible refine wpList_load_row rfl 27 (.tmp 13) rfl x1.heap.size rfl 27 B.cells (0, 0) _ RBX.out Try.underlying27 rfl HIB.out ?_)
          | ((with_reducible refine wpList_store_rowTo rfl 27 (.tmp 9) (.tmp 133) rfl rfl w3.heap.size B.cells ?_ ?_ 27 A.cells RAX.out HIB.out rfl (one_cells _) ?_); (as_aux_lemma => kernel_rfl); (as_aux_lemma => kernel_rfl)))
        go_roundg (n - (k + 1))
        case measure => omega
        case rel => exact ⟨k + 1, N + z, by omega, rfl, (by first | rfl | (rw [hk3]; rfl)), rfl, by omega, below_setRow' HBX.out hw3 _, by rw [HBE.out]; exact setRow_heap _ _ _ _ _ _ RAX.out, LXX.out.keep (kept_setRow (Nat.lt_irrefl _))⟩
      by_cases hk3 : k = 2
      · obtain ⟨rfl, e1⟩ := f2 hk3
        have hkz : ¬ (k : Int) < 2 := by omega
        have hkq : ((k : Int) == 2) = true := by simp; omega
        have MOK := one_ok (msgOf_ok 3 id 0 (by decide))
        have hl := hO.read MOK (Nat.le_trans (show 1 ≤ 2 by decide) (by unfold maxLen; decide))
        obtain ⟨ao2, cc2, rfl, q1, q2, q3⟩ := hl
        have LM := Lib.hid (show ListIn x1 (.slice ao2 1 cc2) [msgOf 3 id 0] from ⟨ao2, cc2, rfl, q1, q2, q3⟩)
        clear hO q1 q2 q3
        have RBX := Lib.hid (heap_alloc_new x1 (.cells B.cells 27))
        have RAX := Lib.hid (row_alloc (o := .cells B.cells 27) R1.out)
        have LXX := Lib.hid (L1.out.keep (kept_below ((Below.refl x1.heap.size x1).alloc (Nat.le_refl _) (.cells B.cells 27))))
        have HBX := Lib.hid (below_more HB1.out (.cells B.cells 27))
        have LMX := Lib.hid (LM.out.below ((Below.refl x1.heap.size x1).alloc (Nat.le_refl _) (.cells B.cells 27)))
        go_wp2_with ((with_reducible refine wpList_store_rowTo rfl 27 (.tmp 13) (.tmp 79) rfl rfl x1.heap.size B.cells ?_ ?_ 27 #[.int .u8 0, .int .u8 0, .int .u8 0, .int .u8 0, .int .u8 0, .int .u8 0, .int .u8 0, .int .u8 0, .int .u8 0, .int .u8 0, .int .u8 0, .int .u8 0, .int .u8 0, .int .i64 0, .int .i64 0, .int .i64 0, .int .i64 0] (heap_alloc_new _ _) HIB.out rfl (one_cells _) ?_); (as_aux_lemma => kernel_rfl); (as_aux_lemma => kernel_rfl); rw [setRow_alloc])
        refine (shut_any id 0 hid0 hid1 (by decide) (by decide) _).mono ?_
        rintro e x2 ⟨mv, rfl, hM, hb⟩
        obtain ⟨mb, rfl⟩ := msg_form hM rfl
        have HM := Lib.hid (hM.read (msgOf_ok 3 id 0 (by decide)).2)
        have LMX := Lib.hid (LMX.out.below hb)
        have RBX := Lib.hid (row_below hb RBX.out)
        have RAX := Lib.hid (row_below hb RAX.out)
        have LXX := Lib.hid (LXX.out.keep (kept_below hb))
        have HBX := Lib.hid (below_step HBX.out hb)
        clear hb
        clear hM
        have RBX := Lib.hid (row_alloc (o := .cells #[.slice (some ⟨mb, 0, none⟩) 5 5] 45) RBX.out)
        have RAX := Lib.hid (row_alloc (o := .cells #[.slice (some ⟨mb, 0, none⟩) 5 5] 45) RAX.out)
        have LXX := Lib.hid (LXX.out.keep (kept_below ((Below.refl x2.heap.size x2).alloc (Nat.le_refl _) (.cells #[.slice (some ⟨mb, 0, none⟩) 5 5] 45))))
        have HBX := Lib.hid (below_more HBX.out (.cells #[.slice (some ⟨mb, 0, none⟩) 5 5] 45))
        go_wp2_with fail
        refine (same_yes (.slice ao2 1 cc2) (.slice (some ⟨x2.heap.size, 0, none⟩) 1 1) _ _ rfl _ (LMX.out.below ((Below.refl _ _).alloc (Nat.le_refl _) _)) (list_one (heap_alloc_new _ _) (HM.out.below ((Below.refl _ _).alloc (Nat.le_refl _) _)) (by show 5 ≤ maxLen; unfold maxLen; decide))).mono ?_
        rintro e x3 ⟨rfl, hb⟩
        have RBX := Lib.hid (row_below hb RBX.out)
        have RAX := Lib.hid (row_below hb RAX.out)
        have LXX := Lib.hid (LXX.out.keep (kept_below hb))
        have HBX := Lib.hid (below_step HBX.out hb)
        clear hb
        have z12 : x3.cell? ⟨x1.heap.size, 12, none⟩ = some (.int .u8 5) := by rw [cell_of_row _ _ _ _ _ _ RBX.out, lk_st, e1]
        go_wp2_with (first
          | (with_reducible refine wpList_load_row rfl 27 (.tmp 13) rfl x1.heap.size rfl 27 B.cells (0, 0) _ RBX.out Try.underlying27 rfl HIB.out ?_)
          | ((with_reducible refine wpList_store_rowTo rfl 27 (.tmp 9) (.tmp 133) rfl rfl w3.heap.size B.cells ?_ ?_ 27 A.cells RAX.out HIB.out rfl (one_cells _) ?_); (as_aux_lemma => kernel_rfl); (as_aux_lemma => kernel_rfl)))
        go_roundg (n - (k + 1))
        case measure => omega
        case rel => exact ⟨k + 1, N + z, by omega, rfl, (by first | rfl | (rw [hk3]; rfl)), rfl, by omega, below_setRow' HBX.out hw3 _, by rw [HBE.out]; exact setRow_heap _ _ _ _ _ _ RAX.out, LXX.out.keep (kept_setRow (Nat.lt_irrefl _))⟩
      · obtain ⟨rfl, e1, e2⟩ := f3 (by omega)
        have MOK := no_ok
        have hkz : ¬ (k : Int) < 2 := by omega
        have hkz2 : ((k : Int) == 2) = false := by simp; omega
        have hkz3 : (2 : Int) < k := by omega
        have hl := hO.read MOK (Nat.le_trans (show 0 ≤ 2 by decide) (by unfold maxLen; decide))
        obtain ⟨ao2, cc2, rfl, q1, q2, q3⟩ := hl
        have LM := Lib.hid (show ListIn x1 (.slice ao2 0 cc2) [] from ⟨ao2, cc2, rfl, q1, q2, q3⟩)
        clear hO q1 q2 q3
        have RBX := Lib.hid (heap_alloc_new x1 (.cells B.cells 27))
        have RAX := Lib.hid (row_alloc (o := .cells B.cells 27) R1.out)
        have LXX := Lib.hid (L1.out.keep (kept_below ((Below.refl x1.heap.size x1).alloc (Nat.le_refl _) (.cells B.cells 27))))
        have HBX := Lib.hid (below_more HB1.out (.cells B.cells 27))
        have z12 : (x1.alloc (.cells B.cells 27)).cell? ⟨x1.heap.size, 12, none⟩ = some (.int .u8 0) := by rw [cell_of_row _ _ _ _ _ _ RBX.out, lk_st, e1]
        have z13 : (x1.alloc (.cells B.cells 27)).cell? ⟨x1.heap.size, 13, none⟩ = some (.int .i64 (id % 65535 + 1)) := by rw [cell_of_row _ _ _ _ _ _ RBX.out, lk_id, e2]
        go_wp2_with (first
          | ((with_reducible refine wpList_store_rowTo rfl 27 (.tmp 13) (.tmp 79) rfl rfl x1.heap.size B.cells ?_ ?_ 27 #[.int .u8 0, .int .u8 0, .int .u8 0, .int .u8 0, .int .u8 0, .int .u8 0, .int .u8 0, .int .u8 0, .int .u8 0, .int .u8 0, .int .u8 0, .int .u8 0, .int .u8 0, .int .i64 0, .int .i64 0, .int .i64 0, .int .i64 0] (heap_alloc_new _ _) HIB.out rfl (one_cells _) ?_); (as_aux_lemma => kernel_rfl); (as_aux_lemma => kernel_rfl); rw [setRow_alloc])
          | (with_reducible refine wpList_load_row rfl 27 (.tmp 13) rfl x1.heap.size rfl 27 B.cells (0, 0) _ RBX.out Try.underlying27 rfl HIB.out ?_)
          | ((with_reducible refine wpList_store_rowTo rfl 27 (.tmp 9) (.tmp 133) rfl rfl w3.heap.size B.cells ?_ ?_ 27 A.cells RAX.out HIB.out rfl (one_cells _) ?_); (as_aux_lemma => kernel_rfl); (as_aux_lemma => kernel_rfl)))
        go_roundg (n - (k + 1))
        case measure => omega
        case rel => exact ⟨k + 1, N + z, by omega, rfl, (by first | rfl | (rw [hk3]; rfl)), rfl, by omega, below_setRow' HBX.out hw3 _, by rw [HBE.out]; exact setRow_heap _ _ _ _ _ _ RAX.out, LXX.out.keep (kept_setRow (Nat.lt_irrefl _))⟩
    · obtain rfl : k = n := by omega
      go_wp2
      go_ret
      exact ⟨rfl, HBR.out⟩
theorem walk (id : Int) (v : Value) (n : Nat) (Z : Nat → Int) (w : World) (hE : IntsIn w v n Z) : Calls Try.prog 5 #[.int .i64 id, v] w (BoolR w) := by
  by_cases hn : n ≤ 10
  · by_cases hi : 1 ≤ id ∧ id ≤ 65535
    · exact in_ id v n Z hi hn w hE
    · exact out id v n Z (.inr ⟨hn, by rw [inB, btw_no hi, Bool.false_and]⟩) w hE
  · exact out id v n Z (.inl (by omega)) w hE
end Go.Proofs.Ytmighkgjbohieaa.peerRetries
