/-
  The walk of PeerPairs: whatever is lost, delayed or repeated, two Up ends are paired.
-/
import Derived.Test.YtmighkgjbohieaaPeerRun
import Derived.Test.YtmighkgjbohieaaPeerOpen
set_option linter.unusedVariables false
set_option linter.unusedSimpArgs false
namespace Go.Proofs.Ytmighkgjbohieaa.peerPairs
open Go.ChangeShapes Go.WideShapes Go.ChangeAt Go.RowKit Go.Great

theorem ends_in {id other : Int} (hi : 1 ≤ id ∧ id ≤ 65535) (ho : 1 ≤ other ∧ other ≤ 65535) (w : World) : Calls Try.prog 11 #[.int .i64 id, .int .i64 other] w fun e w' => e = .returned (.tuple #[.agg (pairCells (LA 0 id 0 0 0) (LB 0 other 0 0 0)), .bool true]) ∧ Below w.heap.size w w' := by
  have h := ends_any id other w
  rw [k0_is hi, k1_is ho, show (inB id && inB other) = true by rw [inB, inB, btw_iff.2 hi, btw_iff.2 ho]; rfl] at h
  exact h
theorem GoodP.two {x y : Lk} (h : GoodP x y) : (x.st == 4) = false ∨ ((x.st == 4) = true ∧ (y.st == 4) = false) ∨ ((x.st == 4) = true ∧ (y.st == 4) = true ∧ pairedB x y = true) := by
  by_cases hx : x.st = 4
  · by_cases hy : y.st = 4
    · exact .inr (.inr ⟨by simpa using hx, by simpa using hy, h.2.2.2.2 hx hy⟩)
    · exact .inr (.inl ⟨by simpa using hx, by simpa using hy⟩)
  · exact .inl (by simpa using hx)
theorem range_left {w w' : World} {b i : Nat} {x y : Lk} (h : w.rangeAt b (i * 34) (pairCells x y).toList) (hb : Below w.heap.size w w') : w'.rangeAt b (i * 34) x.cells.toList := fun j v hv => by
  refine below_kept hb (h j v ?_)
  have := pair_at0 x y j v hv
  rw [← Array.getElem?_toList] at this
  exact this
theorem range_below {w w' : World} {b o : Nat} {cs : List Value} (h : w.rangeAt b o cs) (hb : Below w.heap.size w w') : w'.rangeAt b o cs := fun j v hv => below_kept hb (h j v hv)
theorem range_right {w w' : World} {b i : Nat} {x y : Lk} (h : w.rangeAt b (i * 34) (pairCells x y).toList) (hb : Below w.heap.size w w') : w'.rangeAt b (i * 34 + 17) y.cells.toList := fun j v hv => by
  have := pair_at1 x y j v hv
  rw [← Array.getElem?_toList] at this
  have h2 := below_kept hb (h (17 + j) v this)
  rw [show i * 34 + 17 + j = i * 34 + (17 + j) by omega]
  exact h2
def BoolR (w : World) (e : Ending) (w' : World) : Prop := e = .returned (.bool true) ∧ Below w.heap.size w w'
set_option maxRecDepth 100000 in
set_option maxHeartbeats 8000000 in
theorem out (id other : Int) (hx : (inB id && inB other) = false) (v : Value) (n : Nat) (E : Nat → Ev) (w : World) (hE : EvIn w v n E) : Calls Try.prog 3 #[.int .i64 id, .int .i64 other, v] w (BoolR w) := by
  have HEV := Lib.hid hE
  have HC := Lib.hid (ends_any id other)
  rw [hx] at HC
  have HIP := Lib.hid (pair_info (k0 id) (k1 other))
  go_enter Try.func3, Try.ntmps3
  go_wp2_with (fail)
  refine (alive_any _).mono ?_
  rintro e w1 ⟨rfl, hb⟩
  have HBw1 := Lib.hid (below_step (Below.refl w.heap.size w) hb)
  clear hb
  go_wp2_with (fail)
  refine (HC.out _).mono ?_
  rintro e w2 ⟨rfl, hb⟩
  have HBw2 := Lib.hid (below_step HBw1.out hb)
  clear hb
  go_wp2_with (first
    | (with_reducible refine wpList_runTo rfl (some 8) rfl (.pointer (some ⟨w2.heap.size, 0, none⟩)) (w2.alloc (.cells zp 28)) (by as_aux_lemma => kernel_rfl) ?_; simp only [Act.put, List.setIfInBounds_toArray, List.set_cons_succ, List.set_cons_zero])
    | ((with_reducible refine wpList_store_rowTo rfl 28 (.tmp 8) (.tmp 19) rfl rfl (w2.heap.size) (pairCells (k0 id) (k1 other)) ?_ ?_ 28 zp (heap_alloc_at rfl) HIP.out rfl (pair_one _ _) ?_); (as_aux_lemma => kernel_rfl); (as_aux_lemma => kernel_rfl); rw [setRow_allocAt rfl]))
  refine (great_any v n E _ (HEV.out.below (below_more HBw2.out _))).mono ?_
  rintro e w3 ⟨b, rfl, rfl, _⟩
  cases b
  all_goals
    go_wp2
    go_ret
    exact ⟨rfl, below_more HBw2.out _⟩
set_option maxRecDepth 100000 in
set_option maxHeartbeats 8000000 in
theorem in_ (id other : Int) (hi : 1 ≤ id ∧ id ≤ 65535) (ho : 1 ≤ other ∧ other ≤ 65535) (v : Value) (n : Nat) (E : Nat → Ev) (w : World) (hE : EvIn w v n E) : Calls Try.prog 3 #[.int .i64 id, .int .i64 other, v] w (BoolR w) := by
  have HEV := Lib.hid hE
  have HC := Lib.hid (ends_in hi ho)
  have HIP := Lib.hid (pair_info (LA 0 id 0 0 0) (LB 0 other 0 0 0))
  have HRUN := Lib.hid (fun hn hg w' hE' => run_any id other hi ho v n E hn hg w' hE')
  generalize LA 0 id 0 0 0 = A0 at *
  generalize LB 0 other 0 0 0 = B0 at *
  go_enter Try.func3, Try.ntmps3
  go_wp2_with (fail)
  refine (alive_any _).mono ?_
  rintro e w1 ⟨rfl, hb⟩
  have HBw1 := Lib.hid (below_step (Below.refl w.heap.size w) hb)
  clear hb
  go_wp2_with (fail)
  refine (HC.out _).mono ?_
  rintro e w2 ⟨rfl, hb⟩
  have HBw2 := Lib.hid (below_step HBw1.out hb)
  clear hb
  have gRS : w.heap.size ≤ w2.heap.size := by have hh := Below.size HBw2.out; exact hh
  go_wp2_with (first
    | (with_reducible refine wpList_runTo rfl (some 8) rfl (.pointer (some ⟨w2.heap.size, 0, none⟩)) (w2.alloc (.cells zp 28)) (by as_aux_lemma => kernel_rfl) ?_; simp only [Act.put, List.setIfInBounds_toArray, List.set_cons_succ, List.set_cons_zero])
    | ((with_reducible refine wpList_store_rowTo rfl 28 (.tmp 8) (.tmp 19) rfl rfl (w2.heap.size) (pairCells A0 B0) ?_ ?_ 28 zp (heap_alloc_at rfl) HIP.out rfl (pair_one _ _) ?_); (as_aux_lemma => kernel_rfl); (as_aux_lemma => kernel_rfl); rw [setRow_allocAt rfl]))
  have HB3 := Lib.hid (below_more HBw2.out (.cells (pairCells A0 B0) 28))
  have RS3 := Lib.hid (show ((w2.alloc (.cells (pairCells A0 B0) 28))).heap[w2.heap.size]? = some (.cells (pairCells A0 B0) 28) from (heap_alloc_at rfl))
  refine (great_any v n E _ (HEV.out.below HB3.out)).mono ?_
  rintro e w3 ⟨b, rfl, rfl, hgood⟩
  have HGD := Lib.hid hgood
  clear hgood
  cases b with
  | true =>
    go_wp2
    go_ret
    exact ⟨rfl, HB3.out⟩
  | false =>
    obtain ⟨hn, hg⟩ := HGD.out rfl
    have HG2 := Lib.hid hg
    clear hg
    go_wp2_with (with_reducible refine wpList_load_row rfl 28 (.tmp 8) rfl w2.heap.size rfl 28 (pairCells A0 B0) (0, 0) _ RS3.out Try.underlying28 rfl HIP.out ?_)
    refine (HRUN.out hn HG2.out _ (HEV.out.below HB3.out)).mono ?_
    rintro e w4 ⟨va, base, rfl, hall, hb⟩
    have HB4 := Lib.hid (below_step HB3.out hb)
    obtain ⟨ab, acap, rfl, _, har⟩ := hall.range (Nat.succ_pos n)
    have HAR := Lib.hid har
    clear hall har hb HB3 RS3 HRUN HEV
    have hnm : (n : Int) + 1 ≤ 101 := by omega
    go_wp2_with fail
    go_loopg [11] (n + 1) (fun g i wr => ∃ k : Nat, k ≤ n + 1 ∧ g = n + 1 - k ∧ i = .int .i64 k ∧ Below w4.heap.size w4 wr)
    case atStart => exact ⟨0, by omega, by omega, rfl, Below.refl _ _⟩
    case round =>
      obtain ⟨k, hk, rfl, rfl, hbr⟩ := hrel
      have HBR := Lib.hid hbr
      clear hbr
      by_cases hlt : k < n + 1
      · have hlz : (k : Int) < (n : Int) + 1 := by omega
        have hlz2 : (k : Int) < ((n + 1 : Nat) : Int) := by omega
        have hk0 : (0 : Int) ≤ k := by omega
        obtain ⟨x, y, hgp, hrg⟩ := HAR.out k hlt
        have HGP := Lib.hid hgp
        have HRG := Lib.hid hrg
        clear hrg hgp
        have hx := HGP.out.2.2.1
        have hy := HGP.out.2.2.2.1
        have HIX := Lib.hid (link_info2 x)
        have HIY := Lib.hid (link_info2 y)
        have HIPP := Lib.hid (pair_info x y)
        have R0 := Lib.hid (range_left HRG.out HBR.out)
        have R1 := Lib.hid (range_right HRG.out HBR.out)
        go_upto_region 9 with fail
        go_cut [12, 13] (fun t12 t13 wx => ∃ T1 T2, t12 = .pointer (some ⟨T1, 0, none⟩) ∧ t13 = .pointer (some ⟨T2, 0, none⟩) ∧ wx.heap[T1]? = some (.cells x.cells 27) ∧ wx.heap[T2]? = some (.cells y.cells 27) ∧ Below wr.heap.size wr wx)
        case first =>
          refine wp_region_held_drew (S := fun w' => Below wr.heap.size wr w') (by kernel_rfl) ((Below.refl _ _).drew) (fun hHeld => ?_)
          refine wpAnyH_take (i := 0) (v := .slice (some ⟨ab, 0, none⟩) (n + 1) acap) rfl (by kernel_rfl) (by kernel_rfl) (by kernel_rfl) (fun _ _ _ h => h) (Or.inl ⟨by rfl, by intro w hSw; clear hHeld hSw; go_simp; (try rfl)⟩) (by assumption) ?_
          simp only [Act.put, List.setIfInBounds_toArray, List.set_cons_zero, List.set_cons_succ, List.getElem_toArray, List.getElem_cons_succ, List.getElem_cons_zero]
          refine wpAnyH_take (i := 1) (v := .int .i64 k) rfl (by kernel_rfl) (by kernel_rfl) (by kernel_rfl) (fun _ _ _ h => h) (Or.inl ⟨by rfl, by intro w hSw; clear hHeld hSw; go_simp; (try rfl)⟩) (by assumption) ?_
          simp only [Act.put, List.setIfInBounds_toArray, List.set_cons_zero, List.set_cons_succ, List.getElem_toArray, List.getElem_cons_succ, List.getElem_cons_zero]
          refine wpAnyH_take (i := 2) (v := .pointer (some ⟨ab, k * 34, none⟩)) rfl (by kernel_rfl) (by kernel_rfl) (by kernel_rfl) (fun _ _ _ h => h) (Or.inl ⟨by rfl, by intro w hSw; clear hHeld hSw; go_simp; (try rfl)⟩) (by assumption) ?_
          simp only [Act.put, List.setIfInBounds_toArray, List.set_cons_zero, List.set_cons_succ, List.getElem_toArray, List.getElem_cons_succ, List.getElem_cons_zero]
          refine wpAnyH_take (i := 3) (v := .pointer (some ⟨ab, k * 34, none⟩)) rfl (by kernel_rfl) (by kernel_rfl) (by kernel_rfl) (fun _ _ _ h => h) (Or.inl ⟨by rfl, by intro w hSw; clear hHeld hSw; go_simp; (try rfl)⟩) (by assumption) ?_
          simp only [Act.put, List.setIfInBounds_toArray, List.set_cons_zero, List.set_cons_succ, List.getElem_toArray, List.getElem_cons_succ, List.getElem_cons_zero]
          refine wpAnyH_take (i := 4) (v := .agg x.cells) rfl (by kernel_rfl) (by kernel_rfl) (by kernel_rfl) (fun _ _ _ h => h) (yields_sub (by rfl) 27 _ rfl (ab) (k * 34) (by rfl) x.cells _ (fun w' h' => range_below R0.out h') Try.underlying27 rfl HIX.out) (by assumption) ?_
          simp only [Act.put, List.setIfInBounds_toArray, List.set_cons_zero, List.set_cons_succ, List.getElem_toArray, List.getElem_cons_succ, List.getElem_cons_zero]
          refine wpAnyH_take (i := 5) (v := .slice (some ⟨ab, 0, none⟩) (n + 1) acap) rfl (by kernel_rfl) (by kernel_rfl) (by kernel_rfl) (fun _ _ _ h => h) (Or.inl ⟨by rfl, by intro w hSw; clear hHeld hSw; go_simp; (try rfl)⟩) (by assumption) ?_
          simp only [Act.put, List.setIfInBounds_toArray, List.set_cons_zero, List.set_cons_succ, List.getElem_toArray, List.getElem_cons_succ, List.getElem_cons_zero]
          refine wpAnyH_take (i := 6) (v := .int .i64 k) rfl (by kernel_rfl) (by kernel_rfl) (by kernel_rfl) (fun _ _ _ h => h) (Or.inl ⟨by rfl, by intro w hSw; clear hHeld hSw; go_simp; (try rfl)⟩) (by assumption) ?_
          simp only [Act.put, List.setIfInBounds_toArray, List.set_cons_zero, List.set_cons_succ, List.getElem_toArray, List.getElem_cons_succ, List.getElem_cons_zero]
          refine wpAnyH_take (i := 7) (v := .pointer (some ⟨ab, k * 34, none⟩)) rfl (by kernel_rfl) (by kernel_rfl) (by kernel_rfl) (fun _ _ _ h => h) (Or.inl ⟨by rfl, by intro w hSw; clear hHeld hSw; go_simp; (try rfl)⟩) (by assumption) ?_
          simp only [Act.put, List.setIfInBounds_toArray, List.set_cons_zero, List.set_cons_succ, List.getElem_toArray, List.getElem_cons_succ, List.getElem_cons_zero]
          refine wpAnyH_take (i := 8) (v := .pointer (some ⟨ab, k * 34 + 17, none⟩)) rfl (by kernel_rfl) (by kernel_rfl) (by kernel_rfl) (fun _ _ _ h => h) (Or.inl ⟨by rfl, by intro w hSw; clear hHeld hSw; go_simp; (try rfl)⟩) (by assumption) ?_
          simp only [Act.put, List.setIfInBounds_toArray, List.set_cons_zero, List.set_cons_succ, List.getElem_toArray, List.getElem_cons_succ, List.getElem_cons_zero]
          refine wpAnyH_take (i := 9) (v := .agg y.cells) rfl (by kernel_rfl) (by kernel_rfl) (by kernel_rfl) (fun _ _ _ h => h) (yields_sub (by rfl) 27 _ rfl (ab) (k * 34 + 17) (by rfl) y.cells _ (fun w' h' => range_below R1.out h') Try.underlying27 rfl HIY.out) (by assumption) ?_
          simp only [Act.put, List.setIfInBounds_toArray, List.set_cons_zero, List.set_cons_succ, List.getElem_toArray, List.getElem_cons_succ, List.getElem_cons_zero]
          refine wpAnyH_ready (rs := [10, 11]) (by kernel_rfl) (by simp) ?_
          refine AllReadyH.cons (i := 10) (rs := [11]) rfl ?_ (AllReadyH.cons (i := 11) (rs := []) rfl ?_ AllReadyH.nil)
          · intro Kq hKq
            simp only [List.getElem_toArray, List.getElem_cons_succ, List.getElem_cons_zero]
            rw [if_pos (by rfl)]
            refine wp_op_value (.pointer (some ⟨wr.heap.size, 0, none⟩)) (wr.drew.alloc (.cells #[.int .u8 0, .int .u8 0, .int .u8 0, .int .u8 0, .int .u8 0, .int .u8 0, .int .u8 0, .int .u8 0, .int .u8 0, .int .u8 0, .int .u8 0, .int .u8 0, .int .u8 0, .int .i64 0, .int .i64 0, .int .i64 0, .int .i64 0] 27)) (by as_aux_lemma => kernel_rfl) ?_
            refine hKq.out _ _ (((Below.refl _ _).drew.alloc (Nat.le_refl _) _)) (fun hHeld2 => ?_)
            clear hKq Kq hHeld
            have hHeld := hHeld2
            clear hHeld2
            simp only [Act.put, List.setIfInBounds_toArray, List.set_cons_zero, List.set_cons_succ]
            refine wpAnyH_ready (rs := [11]) (by kernel_rfl) (by simp) ?_
            refine AllReadyH.cons (i := 11) (rs := []) rfl ?_ AllReadyH.nil
            intro Kq hKq
            simp only [List.getElem_toArray, List.getElem_cons_succ, List.getElem_cons_zero]
            rw [if_pos (by rfl)]
            have hs1 : (wr.drew.alloc (.cells #[.int .u8 0, .int .u8 0, .int .u8 0, .int .u8 0, .int .u8 0, .int .u8 0, .int .u8 0, .int .u8 0, .int .u8 0, .int .u8 0, .int .u8 0, .int .u8 0, .int .u8 0, .int .i64 0, .int .i64 0, .int .i64 0, .int .i64 0] 27)).heap.size = wr.heap.size + 1 := by simp only [World.size_alloc, drew_heap]
            refine wp_op_value (.pointer (some ⟨(wr.drew.alloc (.cells #[.int .u8 0, .int .u8 0, .int .u8 0, .int .u8 0, .int .u8 0, .int .u8 0, .int .u8 0, .int .u8 0, .int .u8 0, .int .u8 0, .int .u8 0, .int .u8 0, .int .u8 0, .int .i64 0, .int .i64 0, .int .i64 0, .int .i64 0] 27)).heap.size, 0, none⟩)) ((wr.drew.alloc (.cells #[.int .u8 0, .int .u8 0, .int .u8 0, .int .u8 0, .int .u8 0, .int .u8 0, .int .u8 0, .int .u8 0, .int .u8 0, .int .u8 0, .int .u8 0, .int .u8 0, .int .u8 0, .int .i64 0, .int .i64 0, .int .i64 0, .int .i64 0] 27)).alloc (.cells #[.int .u8 0, .int .u8 0, .int .u8 0, .int .u8 0, .int .u8 0, .int .u8 0, .int .u8 0, .int .u8 0, .int .u8 0, .int .u8 0, .int .u8 0, .int .u8 0, .int .u8 0, .int .i64 0, .int .i64 0, .int .i64 0, .int .i64 0] 27)) (by as_aux_lemma => kernel_rfl) ?_
            refine hKq.out _ _ ((hHeld.alloc hHeld.size _)) (fun hHeld2 => ?_)
            clear hKq Kq hHeld
            have hHeld := hHeld2
            clear hHeld2
            simp only [Act.put, List.setIfInBounds_toArray, List.set_cons_zero, List.set_cons_succ]
            rw [hs1]
            have r0 : ((wr.drew.alloc (.cells #[.int .u8 0, .int .u8 0, .int .u8 0, .int .u8 0, .int .u8 0, .int .u8 0, .int .u8 0, .int .u8 0, .int .u8 0, .int .u8 0, .int .u8 0, .int .u8 0, .int .u8 0, .int .i64 0, .int .i64 0, .int .i64 0, .int .i64 0] 27)).alloc (.cells #[.int .u8 0, .int .u8 0, .int .u8 0, .int .u8 0, .int .u8 0, .int .u8 0, .int .u8 0, .int .u8 0, .int .u8 0, .int .u8 0, .int .u8 0, .int .u8 0, .int .u8 0, .int .i64 0, .int .i64 0, .int .i64 0, .int .i64 0] 27)).heap[wr.heap.size]? = some (.cells #[.int .u8 0, .int .u8 0, .int .u8 0, .int .u8 0, .int .u8 0, .int .u8 0, .int .u8 0, .int .u8 0, .int .u8 0, .int .u8 0, .int .u8 0, .int .u8 0, .int .u8 0, .int .i64 0, .int .i64 0, .int .i64 0, .int .i64 0] 27) := row_alloc (heap_alloc_new wr.drew _)
            have r1 : ((wr.drew.alloc (.cells #[.int .u8 0, .int .u8 0, .int .u8 0, .int .u8 0, .int .u8 0, .int .u8 0, .int .u8 0, .int .u8 0, .int .u8 0, .int .u8 0, .int .u8 0, .int .u8 0, .int .u8 0, .int .i64 0, .int .i64 0, .int .i64 0, .int .i64 0] 27)).alloc (.cells #[.int .u8 0, .int .u8 0, .int .u8 0, .int .u8 0, .int .u8 0, .int .u8 0, .int .u8 0, .int .u8 0, .int .u8 0, .int .u8 0, .int .u8 0, .int .u8 0, .int .u8 0, .int .i64 0, .int .i64 0, .int .i64 0, .int .i64 0] 27)).heap[wr.heap.size + 1]? = some (.cells #[.int .u8 0, .int .u8 0, .int .u8 0, .int .u8 0, .int .u8 0, .int .u8 0, .int .u8 0, .int .u8 0, .int .u8 0, .int .u8 0, .int .u8 0, .int .u8 0, .int .u8 0, .int .i64 0, .int .i64 0, .int .i64 0, .int .i64 0] 27) := heap_alloc_at hs1
            have Hr0 := Lib.hid r0
            have Hr1 := Lib.hid r1
            have HBA := Lib.hid hHeld
            clear r0 r1
            generalize ((wr.drew.alloc (.cells #[.int .u8 0, .int .u8 0, .int .u8 0, .int .u8 0, .int .u8 0, .int .u8 0, .int .u8 0, .int .u8 0, .int .u8 0, .int .u8 0, .int .u8 0, .int .u8 0, .int .u8 0, .int .i64 0, .int .i64 0, .int .i64 0, .int .i64 0] 27)).alloc (.cells #[.int .u8 0, .int .u8 0, .int .u8 0, .int .u8 0, .int .u8 0, .int .u8 0, .int .u8 0, .int .u8 0, .int .u8 0, .int .u8 0, .int .u8 0, .int .u8 0, .int .u8 0, .int .i64 0, .int .i64 0, .int .i64 0, .int .i64 0] 27)) = X at *
            refine wpAnyH_ready (rs := [12]) (by kernel_rfl) (by simp) ?_
            refine AllReadyH.cons (i := 12) (rs := []) rfl ?_ AllReadyH.nil
            intro Kq hKq
            simp only [List.getElem_toArray, List.getElem_cons_succ, List.getElem_cons_zero]
            rw [if_pos (by rfl)]
            refine wp_store_row 27 (.tmp 12) (.tmp 45) (by rfl) wr.heap.size x.cells (by as_aux_lemma => kernel_rfl) (by as_aux_lemma => kernel_rfl) 27 #[.int .u8 0, .int .u8 0, .int .u8 0, .int .u8 0, .int .u8 0, .int .u8 0, .int .u8 0, .int .u8 0, .int .u8 0, .int .u8 0, .int .u8 0, .int .u8 0, .int .u8 0, .int .i64 0, .int .i64 0, .int .i64 0, .int .i64 0] Hr0.out HIX.out (by as_aux_lemma => kernel_rfl) (one_cells _) ?_
            have HBC := Lib.hid (below_setRow' HBA.out (Nat.le_refl _) x.cells)
            refine hKq.out _ _ (HBC.out) (fun hHeld2 => ?_)
            clear hKq Kq hHeld
            have hHeld := hHeld2
            clear hHeld2
            simp only [Act.put, List.setIfInBounds_toArray, List.set_cons_zero, List.set_cons_succ]
            have rb := (setRow_other X wr.heap.size (wr.heap.size + 1) x.cells (Nat.ne_of_gt (Nat.lt_succ_self _))).trans Hr1.out
            have ra := setRow_heap _ _ _ x.cells _ _ Hr0.out
            refine wpAnyH_ready (rs := [13]) (by kernel_rfl) (by simp) ?_
            refine AllReadyH.cons (i := 13) (rs := []) rfl ?_ AllReadyH.nil
            intro Kq hKq
            simp only [List.getElem_toArray, List.getElem_cons_succ, List.getElem_cons_zero]
            rw [if_pos (by rfl)]
            refine wp_store_row 27 (.tmp 13) (.tmp 50) (by rfl) (wr.heap.size + 1) y.cells (by as_aux_lemma => kernel_rfl) (by as_aux_lemma => kernel_rfl) 27 #[.int .u8 0, .int .u8 0, .int .u8 0, .int .u8 0, .int .u8 0, .int .u8 0, .int .u8 0, .int .u8 0, .int .u8 0, .int .u8 0, .int .u8 0, .int .u8 0, .int .u8 0, .int .i64 0, .int .i64 0, .int .i64 0, .int .i64 0] rb HIY.out (by as_aux_lemma => kernel_rfl) (one_cells _) ?_
            have HBD := Lib.hid (below_setRow' HBC.out (Nat.le_succ _) y.cells)
            refine hKq.out _ _ (HBD.out) (fun hHeld2 => ?_)
            clear hKq Kq hHeld
            have hHeld := hHeld2
            clear hHeld2
            simp only [Act.put, List.setIfInBounds_toArray, List.set_cons_zero, List.set_cons_succ]
            clear hHeld
            refine wpAnyH_done (by kernel_rfl) ?_ _
            go_wp2_with fail
            go_meet
            case rel => exact ⟨wr.heap.size, (wr.heap.size + 1), rfl, rfl, (setRow_other _ _ _ _ (Nat.ne_of_lt (Nat.lt_succ_self _))).trans ra, setRow_heap _ _ _ _ _ _ rb, HBD.out⟩
          · intro Kq hKq
            simp only [List.getElem_toArray, List.getElem_cons_succ, List.getElem_cons_zero]
            rw [if_pos (by rfl)]
            refine wp_op_value (.pointer (some ⟨wr.heap.size, 0, none⟩)) (wr.drew.alloc (.cells #[.int .u8 0, .int .u8 0, .int .u8 0, .int .u8 0, .int .u8 0, .int .u8 0, .int .u8 0, .int .u8 0, .int .u8 0, .int .u8 0, .int .u8 0, .int .u8 0, .int .u8 0, .int .i64 0, .int .i64 0, .int .i64 0, .int .i64 0] 27)) (by as_aux_lemma => kernel_rfl) ?_
            refine hKq.out _ _ (((Below.refl _ _).drew.alloc (Nat.le_refl _) _)) (fun hHeld2 => ?_)
            clear hKq Kq hHeld
            have hHeld := hHeld2
            clear hHeld2
            simp only [Act.put, List.setIfInBounds_toArray, List.set_cons_zero, List.set_cons_succ]
            refine wpAnyH_ready (rs := [10]) (by kernel_rfl) (by simp) ?_
            refine AllReadyH.cons (i := 10) (rs := []) rfl ?_ AllReadyH.nil
            intro Kq hKq
            simp only [List.getElem_toArray, List.getElem_cons_succ, List.getElem_cons_zero]
            rw [if_pos (by rfl)]
            have hs1 : (wr.drew.alloc (.cells #[.int .u8 0, .int .u8 0, .int .u8 0, .int .u8 0, .int .u8 0, .int .u8 0, .int .u8 0, .int .u8 0, .int .u8 0, .int .u8 0, .int .u8 0, .int .u8 0, .int .u8 0, .int .i64 0, .int .i64 0, .int .i64 0, .int .i64 0] 27)).heap.size = wr.heap.size + 1 := by simp only [World.size_alloc, drew_heap]
            refine wp_op_value (.pointer (some ⟨(wr.drew.alloc (.cells #[.int .u8 0, .int .u8 0, .int .u8 0, .int .u8 0, .int .u8 0, .int .u8 0, .int .u8 0, .int .u8 0, .int .u8 0, .int .u8 0, .int .u8 0, .int .u8 0, .int .u8 0, .int .i64 0, .int .i64 0, .int .i64 0, .int .i64 0] 27)).heap.size, 0, none⟩)) ((wr.drew.alloc (.cells #[.int .u8 0, .int .u8 0, .int .u8 0, .int .u8 0, .int .u8 0, .int .u8 0, .int .u8 0, .int .u8 0, .int .u8 0, .int .u8 0, .int .u8 0, .int .u8 0, .int .u8 0, .int .i64 0, .int .i64 0, .int .i64 0, .int .i64 0] 27)).alloc (.cells #[.int .u8 0, .int .u8 0, .int .u8 0, .int .u8 0, .int .u8 0, .int .u8 0, .int .u8 0, .int .u8 0, .int .u8 0, .int .u8 0, .int .u8 0, .int .u8 0, .int .u8 0, .int .i64 0, .int .i64 0, .int .i64 0, .int .i64 0] 27)) (by as_aux_lemma => kernel_rfl) ?_
            refine hKq.out _ _ ((hHeld.alloc hHeld.size _)) (fun hHeld2 => ?_)
            clear hKq Kq hHeld
            have hHeld := hHeld2
            clear hHeld2
            simp only [Act.put, List.setIfInBounds_toArray, List.set_cons_zero, List.set_cons_succ]
            rw [hs1]
            have r0 : ((wr.drew.alloc (.cells #[.int .u8 0, .int .u8 0, .int .u8 0, .int .u8 0, .int .u8 0, .int .u8 0, .int .u8 0, .int .u8 0, .int .u8 0, .int .u8 0, .int .u8 0, .int .u8 0, .int .u8 0, .int .i64 0, .int .i64 0, .int .i64 0, .int .i64 0] 27)).alloc (.cells #[.int .u8 0, .int .u8 0, .int .u8 0, .int .u8 0, .int .u8 0, .int .u8 0, .int .u8 0, .int .u8 0, .int .u8 0, .int .u8 0, .int .u8 0, .int .u8 0, .int .u8 0, .int .i64 0, .int .i64 0, .int .i64 0, .int .i64 0] 27)).heap[wr.heap.size]? = some (.cells #[.int .u8 0, .int .u8 0, .int .u8 0, .int .u8 0, .int .u8 0, .int .u8 0, .int .u8 0, .int .u8 0, .int .u8 0, .int .u8 0, .int .u8 0, .int .u8 0, .int .u8 0, .int .i64 0, .int .i64 0, .int .i64 0, .int .i64 0] 27) := row_alloc (heap_alloc_new wr.drew _)
            have r1 : ((wr.drew.alloc (.cells #[.int .u8 0, .int .u8 0, .int .u8 0, .int .u8 0, .int .u8 0, .int .u8 0, .int .u8 0, .int .u8 0, .int .u8 0, .int .u8 0, .int .u8 0, .int .u8 0, .int .u8 0, .int .i64 0, .int .i64 0, .int .i64 0, .int .i64 0] 27)).alloc (.cells #[.int .u8 0, .int .u8 0, .int .u8 0, .int .u8 0, .int .u8 0, .int .u8 0, .int .u8 0, .int .u8 0, .int .u8 0, .int .u8 0, .int .u8 0, .int .u8 0, .int .u8 0, .int .i64 0, .int .i64 0, .int .i64 0, .int .i64 0] 27)).heap[wr.heap.size + 1]? = some (.cells #[.int .u8 0, .int .u8 0, .int .u8 0, .int .u8 0, .int .u8 0, .int .u8 0, .int .u8 0, .int .u8 0, .int .u8 0, .int .u8 0, .int .u8 0, .int .u8 0, .int .u8 0, .int .i64 0, .int .i64 0, .int .i64 0, .int .i64 0] 27) := heap_alloc_at hs1
            have Hr0 := Lib.hid r0
            have Hr1 := Lib.hid r1
            have HBA := Lib.hid hHeld
            clear r0 r1
            generalize ((wr.drew.alloc (.cells #[.int .u8 0, .int .u8 0, .int .u8 0, .int .u8 0, .int .u8 0, .int .u8 0, .int .u8 0, .int .u8 0, .int .u8 0, .int .u8 0, .int .u8 0, .int .u8 0, .int .u8 0, .int .i64 0, .int .i64 0, .int .i64 0, .int .i64 0] 27)).alloc (.cells #[.int .u8 0, .int .u8 0, .int .u8 0, .int .u8 0, .int .u8 0, .int .u8 0, .int .u8 0, .int .u8 0, .int .u8 0, .int .u8 0, .int .u8 0, .int .u8 0, .int .u8 0, .int .i64 0, .int .i64 0, .int .i64 0, .int .i64 0] 27)) = X at *
            refine wpAnyH_ready (rs := [12]) (by kernel_rfl) (by simp) ?_
            refine AllReadyH.cons (i := 12) (rs := []) rfl ?_ AllReadyH.nil
            intro Kq hKq
            simp only [List.getElem_toArray, List.getElem_cons_succ, List.getElem_cons_zero]
            rw [if_pos (by rfl)]
            refine wp_store_row 27 (.tmp 12) (.tmp 45) (by rfl) (wr.heap.size + 1) x.cells (by as_aux_lemma => kernel_rfl) (by as_aux_lemma => kernel_rfl) 27 #[.int .u8 0, .int .u8 0, .int .u8 0, .int .u8 0, .int .u8 0, .int .u8 0, .int .u8 0, .int .u8 0, .int .u8 0, .int .u8 0, .int .u8 0, .int .u8 0, .int .u8 0, .int .i64 0, .int .i64 0, .int .i64 0, .int .i64 0] Hr1.out HIX.out (by as_aux_lemma => kernel_rfl) (one_cells _) ?_
            have HBC := Lib.hid (below_setRow' HBA.out (Nat.le_succ _) x.cells)
            refine hKq.out _ _ (HBC.out) (fun hHeld2 => ?_)
            clear hKq Kq hHeld
            have hHeld := hHeld2
            clear hHeld2
            simp only [Act.put, List.setIfInBounds_toArray, List.set_cons_zero, List.set_cons_succ]
            have rb := (setRow_other X (wr.heap.size + 1) wr.heap.size x.cells (Nat.ne_of_lt (Nat.lt_succ_self _))).trans Hr0.out
            have ra := setRow_heap _ _ _ x.cells _ _ Hr1.out
            refine wpAnyH_ready (rs := [13]) (by kernel_rfl) (by simp) ?_
            refine AllReadyH.cons (i := 13) (rs := []) rfl ?_ AllReadyH.nil
            intro Kq hKq
            simp only [List.getElem_toArray, List.getElem_cons_succ, List.getElem_cons_zero]
            rw [if_pos (by rfl)]
            refine wp_store_row 27 (.tmp 13) (.tmp 50) (by rfl) wr.heap.size y.cells (by as_aux_lemma => kernel_rfl) (by as_aux_lemma => kernel_rfl) 27 #[.int .u8 0, .int .u8 0, .int .u8 0, .int .u8 0, .int .u8 0, .int .u8 0, .int .u8 0, .int .u8 0, .int .u8 0, .int .u8 0, .int .u8 0, .int .u8 0, .int .u8 0, .int .i64 0, .int .i64 0, .int .i64 0, .int .i64 0] rb HIY.out (by as_aux_lemma => kernel_rfl) (one_cells _) ?_
            have HBD := Lib.hid (below_setRow' HBC.out (Nat.le_refl _) y.cells)
            refine hKq.out _ _ (HBD.out) (fun hHeld2 => ?_)
            clear hKq Kq hHeld
            have hHeld := hHeld2
            clear hHeld2
            simp only [Act.put, List.setIfInBounds_toArray, List.set_cons_zero, List.set_cons_succ]
            clear hHeld
            refine wpAnyH_done (by kernel_rfl) ?_ _
            go_wp2_with fail
            go_meet
            case rel => exact ⟨(wr.heap.size + 1), wr.heap.size, rfl, rfl, (setRow_other _ _ _ _ (Nat.ne_of_gt (Nat.lt_succ_self _))).trans ra, setRow_heap _ _ _ _ _ _ rb, HBD.out⟩
        case rest =>
          obtain ⟨T1, T2, rfl, rfl, t1, t2, hbx⟩ := hcut
          have Q1 := Lib.hid t1
          have Q2 := Lib.hid t2
          have HBX := Lib.hid (HBR.out.trans (hbx.mono HBR.out.size))
          have HRR := Lib.hid (range_below HRG.out HBX.out)
          clear t1 t2 hbx R0 R1 HBR
          have hbx := HGP.out.1
          have hby := HGP.out.2.1
          have CX := Lib.hid (fun W => hx ▸ check_any x hbx W)
          have CY := Lib.hid (fun W => hy ▸ check_any y hby W)
          go_wp2_with (with_reducible refine wpList_load_row rfl 27 (.tmp 12) rfl T1 rfl 27 x.cells (0, 0) _ Q1.out Try.underlying27 rfl HIX.out ?_)
          refine (CX.out _).mono ?_
          rintro e x1 ⟨rfl, hb⟩
          have S1x1 := Lib.hid (row_below hb Q1.out)
          have S2x1 := Lib.hid (row_below hb Q2.out)
          have HBx1 := Lib.hid (Below.trans HBX.out (hb.mono HBX.out.size))
          have HRx1 := Lib.hid (range_below HRR.out hb)
          clear hb
          go_wp2_with ((with_reducible refine wpList_load_subG ?_ 27 (.tmp 13) rfl T2 0 rfl y.cells _ (range_row S2x1.out) Try.underlying27 rfl HIY.out ?_); (as_aux_lemma => kernel_rfl))
          refine (CY.out _).mono ?_
          rintro e x2 ⟨rfl, hb⟩
          have S1x2 := Lib.hid (row_below hb S1x1.out)
          have S2x2 := Lib.hid (row_below hb S2x1.out)
          have HBx2 := Lib.hid (Below.trans HBx1.out (hb.mono HBx1.out.size))
          have HRx2 := Lib.hid (range_below HRx1.out hb)
          clear hb
          go_wp2_with ((with_reducible refine wpList_load_subG ?_ 27 (.tmp 12) rfl T1 0 rfl x.cells _ (range_row S1x2.out) Try.underlying27 rfl HIX.out ?_); (as_aux_lemma => kernel_rfl))
          refine ((up_any x) _).mono ?_
          rintro e x3 ⟨rfl, hb⟩
          have S1x3 := Lib.hid (row_below hb S1x2.out)
          have S2x3 := Lib.hid (row_below hb S2x2.out)
          have HBx3 := Lib.hid (Below.trans HBx2.out (hb.mono HBx2.out.size))
          have HRx3 := Lib.hid (range_below HRx2.out hb)
          clear hb
          rcases GoodP.two HGP.out with h1 | ⟨h1, h2⟩ | ⟨h1, h2, h3⟩
          · simp only [h1]
            go_wp2_with fail
            go_roundg (n + 1 - (k + 1))
            case measure => omega
            case rel => exact ⟨k + 1, by omega, rfl, rfl, HBx3.out⟩
          · simp only [h1]
            go_wp2_with ((with_reducible refine wpList_load_subG ?_ 27 (.tmp 13) rfl T2 0 rfl y.cells _ (range_row S2x3.out) Try.underlying27 rfl HIY.out ?_); (as_aux_lemma => kernel_rfl))
            refine ((up_any y) _).mono ?_
            rintro e x4 ⟨rfl, hb⟩
            have S1x4 := Lib.hid (row_below hb S1x3.out)
            have S2x4 := Lib.hid (row_below hb S2x3.out)
            have HBx4 := Lib.hid (Below.trans HBx3.out (hb.mono HBx3.out.size))
            have HRx4 := Lib.hid (range_below HRx3.out hb)
            clear hb
            simp only [h2]
            go_wp2_with fail
            go_roundg (n + 1 - (k + 1))
            case measure => omega
            case rel => exact ⟨k + 1, by omega, rfl, rfl, HBx4.out⟩
          · simp only [h1]
            go_wp2_with ((with_reducible refine wpList_load_subG ?_ 27 (.tmp 13) rfl T2 0 rfl y.cells _ (range_row S2x3.out) Try.underlying27 rfl HIY.out ?_); (as_aux_lemma => kernel_rfl))
            refine ((up_any y) _).mono ?_
            rintro e x5 ⟨rfl, hb⟩
            have S1x5 := Lib.hid (row_below hb S1x3.out)
            have S2x5 := Lib.hid (row_below hb S2x3.out)
            have HBx5 := Lib.hid (Below.trans HBx3.out (hb.mono HBx3.out.size))
            have HRx5 := Lib.hid (range_below HRx3.out hb)
            clear hb
            simp only [h2]
            go_wp2_with ((with_reducible refine wpList_load_subG ?_ 28 (.tmp 69) rfl ab (k * 34) rfl (pairCells x y) _ HRx5.out Try.underlying28 rfl HIPP.out ?_); (as_aux_lemma => kernel_rfl))
            refine ((paired_any x y) _).mono ?_
            rintro e x6 ⟨rfl, hb⟩
            have S1x6 := Lib.hid (row_below hb S1x5.out)
            have S2x6 := Lib.hid (row_below hb S2x5.out)
            have HBx6 := Lib.hid (Below.trans HBx5.out (hb.mono HBx5.out.size))
            have HRx6 := Lib.hid (range_below HRx5.out hb)
            clear hb
            simp only [h3]
            go_wp2_with fail
            go_roundg (n + 1 - (k + 1))
            case measure => omega
            case rel => exact ⟨k + 1, by omega, rfl, rfl, HBx6.out⟩
      · obtain rfl : k = n + 1 := by omega
        go_wp2
        go_ret
        exact ⟨rfl, HB4.out.trans (HBR.out.mono HB4.out.size)⟩
theorem walk (id other : Int) (v : Value) (n : Nat) (E : Nat → Ev) (w : World) (hE : EvIn w v n E) : Calls Try.prog 3 #[.int .i64 id, .int .i64 other, v] w (BoolR w) := by
  by_cases hi : 1 ≤ id ∧ id ≤ 65535
  · by_cases ho : 1 ≤ other ∧ other ≤ 65535
    · exact in_ id other hi ho v n E w hE
    · exact out id other (by rw [inB, inB, btw_no ho, Bool.and_false]) v n E w hE
  · exact out id other (by rw [inB, btw_no hi, Bool.false_and]) v n E w hE
end Go.Proofs.Ytmighkgjbohieaa.peerPairs
