/-
  The contract of the law's ends.
-/
import Derived.Test.YtmighkgjbohieaaPeerPair
set_option linter.unusedVariables false
set_option linter.unusedSimpArgs false
namespace Go.Proofs.Ytmighkgjbohieaa
open Go.ChangeShapes Go.WideShapes Go.ChangeAt Go.RowKit Go.Great

def inB (id : Int) : Bool := btw id 1 65535
def k0 (id : Int) : Lk := if inB id = true then newK 2 0 0 0 0 3 2 0 0 0 0 4 id else zeroLk
def k1 (id : Int) : Lk := if inB id = true then newK 2 0 0 0 0 4 2 0 0 0 0 3 id else zeroLk
def idE (id : Int) : Int := if inB id = true then 0 else 2
theorem new0_any (id : Int) (w : World) : Calls Try.prog 24 #[.agg #[.int .u8 2, .int .u8 0, .int .u8 0, .int .u8 0, .int .u8 0, .int .u8 3], .agg #[.int .u8 2, .int .u8 0, .int .u8 0, .int .u8 0, .int .u8 0, .int .u8 4], .int .i64 id] w fun e w' => e = .returned (.tuple #[.agg (k0 id).cells, .int .i64 (idE id)]) ∧ Below w.heap.size w w' := by
  by_cases h : inB id = true
  · have h' := btw_iff.1 h
    simp only [k0, idE, h, if_true]
    exact new_ok 2 0 0 0 0 3 2 0 0 0 0 4 id (by decide) (by decide) (by decide) (by decide) (by decide) (by decide) (by decide) (by decide) (by decide) (by decide) (by decide) (by decide) (by decide) h'.1 h'.2 w
  · have h' : ¬ (1 ≤ id ∧ id ≤ 65535) := fun q => h (btw_iff.2 q)
    simp only [k0, idE, if_neg h]
    exact new_range 2 0 0 0 0 3 2 0 0 0 0 4 id (by decide) (by decide) (by decide) (by decide) (by decide) (by decide) (by decide) (by decide) (by decide) (by decide) (by decide) (by decide) (by decide) (by omega) w
theorem new1_any (id : Int) (w : World) : Calls Try.prog 24 #[.agg #[.int .u8 2, .int .u8 0, .int .u8 0, .int .u8 0, .int .u8 0, .int .u8 4], .agg #[.int .u8 2, .int .u8 0, .int .u8 0, .int .u8 0, .int .u8 0, .int .u8 3], .int .i64 id] w fun e w' => e = .returned (.tuple #[.agg (k1 id).cells, .int .i64 (idE id)]) ∧ Below w.heap.size w w' := by
  by_cases h : inB id = true
  · have h' := btw_iff.1 h
    simp only [k1, idE, h, if_true]
    exact new_ok 2 0 0 0 0 4 2 0 0 0 0 3 id (by decide) (by decide) (by decide) (by decide) (by decide) (by decide) (by decide) (by decide) (by decide) (by decide) (by decide) (by decide) (by decide) h'.1 h'.2 w
  · have h' : ¬ (1 ≤ id ∧ id ≤ 65535) := fun q => h (btw_iff.2 q)
    simp only [k1, idE, if_neg h]
    exact new_range 2 0 0 0 0 4 2 0 0 0 0 3 id (by decide) (by decide) (by decide) (by decide) (by decide) (by decide) (by decide) (by decide) (by decide) (by decide) (by decide) (by decide) (by decide) (by omega) w
theorem setRow_alloc (w : World) (c cs : Array Value) (t : TypeId) : (w.alloc (.cells c t)).setRow w.heap.size cs = w.alloc (.cells cs t) := by
  have h : (w.heap.push (Obj.cells c t)).modify w.heap.size (fun | .cells _ elem frozen => .cells cs elem frozen | o => o) = w.heap.push (Obj.cells cs t) := by
    apply Array.ext
    · simp
    · intro i h1 h2
      simp only [Array.getElem_modify, Array.getElem_push]
      simp only [Array.size_push] at h2
      by_cases hi : i < w.heap.size
      · simp [hi]; omega
      · have : i = w.heap.size := by omega
        subst this
        simp
  show ({ w with heap := _ } : World) = _
  exact congrArg (fun hp => ({ w with heap := hp } : World)) h
def zp : Array Value := pairCells zeroLk zeroLk
set_option maxHeartbeats 4000000 in
theorem ends_any (id other : Int) (w : World) : Calls Try.prog 11 #[.int .i64 id, .int .i64 other] w fun e w' => e = .returned (.tuple #[.agg (pairCells (k0 id) (k1 other)), .bool (inB id && inB other)]) ∧ Below w.heap.size w w' := by
  have hc : (inB id = false ∧ idE id = 2) ∨ (inB id = true ∧ idE id = 0) := by
    simp only [idE]; cases inB id <;> simp
  have hc2 : (inB other = false ∧ idE other = 2) ∨ (inB other = true ∧ idE other = 0) := by
    simp only [idE]; cases inB other <;> simp
  have HC := Lib.hid hc
  have HC2 := Lib.hid hc2
  clear hc hc2
  have HIX := Lib.hid (link_info2 (k0 id))
  have HIY := Lib.hid (link_info2 (k1 other))
  have HIP := Lib.hid (pair_info (k0 id) (k1 other))
  go_enter Try.func11, Try.ntmps11
  go_wp2_with (with_reducible refine wpList_runTo rfl (some 4) rfl (.pointer (some ⟨w.heap.size, 0, none⟩)) (w.alloc (.cells zp 28)) (by as_aux_lemma => kernel_rfl) ?_; simp only [Act.put, List.setIfInBounds_toArray, List.set_cons_succ, List.set_cons_zero])
  go_wp2_with fail
  refine (one_any _).mono ?_
  rintro e w1 ⟨rfl, hb1⟩
  have HB1 := Lib.hid (((Below.refl w.heap.size w).alloc (Nat.le_refl _) _).trans (hb1.mono (by (try simp only [World.size_alloc]); omega)))
  have RZ1 := Lib.hid (show w1.heap[w.heap.size]? = some (.cells zp 28) from row_below hb1 (heap_alloc_new w _))
  have hz1 := HB1.out.size
  clear hb1
  go_wp2_with fail
  refine (two_any _).mono ?_
  rintro e w2 ⟨rfl, hb2⟩
  have HB2 := Lib.hid (HB1.out.trans (hb2.mono (by (try simp only [World.size_alloc]); omega)))
  have RZ2 := Lib.hid (show w2.heap[w.heap.size]? = some (.cells zp 28) from row_below hb2 (RZ1.out))
  have hz2 := HB2.out.size
  clear hb2
  go_wp2_with fail
  refine (new0_any id _).mono ?_
  rintro e w3 ⟨rfl, hb3⟩
  have HB3 := Lib.hid (HB2.out.trans (hb3.mono (by (try simp only [World.size_alloc]); omega)))
  have RZ3 := Lib.hid (show w3.heap[w.heap.size]? = some (.cells zp 28) from row_below hb3 (RZ2.out))
  have hz3 := HB3.out.size
  clear hb3
  go_wp2_with ((with_reducible refine wpList_store_rowTo rfl 27 (.tmp 6) (.tmp 15) rfl rfl w3.heap.size (k0 id).cells ?_ ?_ 27 #[.int .u8 0, .int .u8 0, .int .u8 0, .int .u8 0, .int .u8 0, .int .u8 0, .int .u8 0, .int .u8 0, .int .u8 0, .int .u8 0, .int .u8 0, .int .u8 0, .int .u8 0, .int .i64 0, .int .i64 0, .int .i64 0, .int .i64 0] (heap_alloc_new _ _) HIX.out rfl (one_cells _) ?_); (as_aux_lemma => kernel_rfl); (as_aux_lemma => kernel_rfl); rw [setRow_alloc])
  refine (two_any _).mono ?_
  rintro e w4 ⟨rfl, hb4⟩
  have HB4 := Lib.hid ((HB3.out.alloc (by omega) _).trans (hb4.mono (by (try simp only [World.size_alloc]); omega)))
  have RZ4 := Lib.hid (show w4.heap[w.heap.size]? = some (.cells zp 28) from row_below hb4 (row_alloc RZ3.out))
  have RA4 := Lib.hid (show w4.heap[w3.heap.size]? = some (.cells (k0 id).cells 27) from row_below hb4 (heap_alloc_new w3 _))
  have hz4 := HB4.out.size
  clear hb4
  go_wp2_with fail
  refine (one_any _).mono ?_
  rintro e w5 ⟨rfl, hb5⟩
  have HB5 := Lib.hid (HB4.out.trans (hb5.mono (by (try simp only [World.size_alloc]); omega)))
  have RZ5 := Lib.hid (show w5.heap[w.heap.size]? = some (.cells zp 28) from row_below hb5 (RZ4.out))
  have RA5 := Lib.hid (show w5.heap[w3.heap.size]? = some (.cells (k0 id).cells 27) from row_below hb5 (RA4.out))
  have hz5 := HB5.out.size
  clear hb5
  go_wp2_with fail
  refine (new1_any other _).mono ?_
  rintro e w6 ⟨rfl, hb6⟩
  have HB6 := Lib.hid (HB5.out.trans (hb6.mono (by (try simp only [World.size_alloc]); omega)))
  have RZ6 := Lib.hid (show w6.heap[w.heap.size]? = some (.cells zp 28) from row_below hb6 (RZ5.out))
  have RA6 := Lib.hid (show w6.heap[w3.heap.size]? = some (.cells (k0 id).cells 27) from row_below hb6 (RA5.out))
  have hz6 := HB6.out.size
  clear hb6
  have RZ7 := Lib.hid (show (w6.alloc (.cells (k1 other).cells 27)).heap[w.heap.size]? = some (.cells zp 28) from row_alloc RZ6.out)
  have RA7 := Lib.hid (show (w6.alloc (.cells (k1 other).cells 27)).heap[w3.heap.size]? = some (.cells (k0 id).cells 27) from row_alloc RA6.out)
  have RB7 := Lib.hid (show (w6.alloc (.cells (k1 other).cells 27)).heap[w6.heap.size]? = some (.cells (k1 other).cells 27) from heap_alloc_new _ _)
  rcases HC.out with ⟨g1, g2⟩ | ⟨g1, g2⟩
  all_goals rcases HC2.out with ⟨g3, g4⟩ | ⟨g3, g4⟩
  all_goals
    simp only [g1, g2, g3, g4]
    go_wp2_with (first
      | ((with_reducible refine wpList_store_rowTo rfl 27 (.tmp 8) (.tmp 22) rfl rfl w6.heap.size (k1 other).cells ?_ ?_ 27 #[.int .u8 0, .int .u8 0, .int .u8 0, .int .u8 0, .int .u8 0, .int .u8 0, .int .u8 0, .int .u8 0, .int .u8 0, .int .u8 0, .int .u8 0, .int .u8 0, .int .u8 0, .int .i64 0, .int .i64 0, .int .i64 0, .int .i64 0] (heap_alloc_new _ _) HIY.out rfl (one_cells _) ?_); (as_aux_lemma => kernel_rfl); (as_aux_lemma => kernel_rfl); rw [setRow_alloc])
      | (with_reducible refine wpList_load_row rfl 27 (.tmp 6) rfl w3.heap.size rfl 27 (k0 id).cells (0, 0) _ RA7.out Try.underlying27 rfl HIX.out ?_)
      | (with_reducible refine wpList_load_row rfl 27 (.tmp 8) rfl w6.heap.size rfl 27 (k1 other).cells (0, 0) _ RB7.out Try.underlying27 rfl HIY.out ?_)
      | (with_reducible refine wpList_runTo rfl (some 26) rfl (.agg (pairCells (k0 id) (k1 other))) (w6.alloc (.cells (k1 other).cells 27)) (by as_aux_lemma => kernel_rfl) ?_; simp only [Act.put, List.setIfInBounds_toArray, List.set_cons_succ, List.set_cons_zero])
      | ((with_reducible refine wpList_store_rowTo rfl 28 (.tmp 4) (.tmp 26) rfl rfl w.heap.size (pairCells (k0 id) (k1 other)) ?_ ?_ 28 zp RZ7.out HIP.out rfl (pair_one _ _) ?_); (as_aux_lemma => kernel_rfl); (as_aux_lemma => kernel_rfl)))
    refine bodyPost_ret (results_row2 rfl _ _ w.heap.size 28 (pairCells (k0 id) (k1 other)) (0, 0) _ rfl (setRow_heap _ _ _ _ _ _ RZ7.out) Try.underlying28 rfl HIP.out) rfl ?_
    exact ⟨by rw [g1, g3]; rfl, below_setRow' (HB6.out.alloc (by omega) _) (Nat.le_refl _) _⟩
end Go.Proofs.Ytmighkgjbohieaa
