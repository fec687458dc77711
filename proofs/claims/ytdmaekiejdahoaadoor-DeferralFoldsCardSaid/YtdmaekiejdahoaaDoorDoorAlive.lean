/-
  The contract of hotspotlaw13.alive.
-/
import Derived.Test.YtdmaekiejdahoaaDoorDoor
import Derived.Great.BuildSlice
import Derived.Great.Walk
namespace Go.Proofs.YtdmaekiejdahoaaDoor
open Go.ChangeShapes Go.WideShapes Go.ChangeAt Go.RowKit Go.Great

/-- The address 'other'. -/
structure Oth (w : World) : Prop where
  c0 : w.cell? ⟨0, 0, none⟩ = some (.int .u8 2)
  c1 : w.cell? ⟨0, 1, none⟩ = some (.int .u8 0)
  c2 : w.cell? ⟨0, 2, none⟩ = some (.int .u8 0)
  c3 : w.cell? ⟨0, 3, none⟩ = some (.int .u8 0)
  c4 : w.cell? ⟨0, 4, none⟩ = some (.int .u8 0)
  c5 : w.cell? ⟨0, 5, none⟩ = some (.int .u8 9)
theorem Oth.below {w w' : World} (T : Oth w) (h : Below w.heap.size w w') : Oth w' :=
  ⟨below_kept h T.c0, below_kept h T.c1, below_kept h T.c2, below_kept h T.c3, below_kept h T.c4, below_kept h T.c5⟩

def wantCells : Array Value := #[.int .i64 79, .int .i64 43, .int .i64 34, .int .i64 34]
theorem want_at (k : Nat) (h : k < 4) : wantCells[k]? = some (.int .i64 (spaceN k)) := by
  have h4 : k = 0 ∨ k = 1 ∨ k = 2 ∨ k = 3 := by omega
  rcases h4 with rfl | rfl | rfl | rfl <;> rfl
theorem spaceE_lt (k : Nat) (h : k < 4) : spaceE k = 0 := by
  simp only [spaceE]
  rw [if_pos (by omega)]

theorem setRow_alloc (w : World) (c cs : Array Value) (t : TypeId) : (w.alloc (.cells c t)).setRow w.heap.size cs = w.alloc (.cells cs t) := by
  have h : (w.heap.push (Obj.cells c t)).modify w.heap.size (fun | .cells _ elem frozen => .cells cs elem frozen | o => o) = w.heap.push (Obj.cells cs t) := by
    apply Array.ext
    · simp
    · intro i h1 h2
      simp only [Array.getElem_modify, Array.getElem_push]
      simp only [Array.size_push] at h2
      by_cases hi : i < w.heap.size
      · simp [hi]; omega
      · have : i = w.heap.size := by omega
        subst this
        simp
  show ({ w with heap := _ } : World) = _
  exact congrArg (fun hp => ({ w with heap := hp } : World)) h
theorem row_below {w w' : World} {b : Nat} {x : Obj} (hb : Below w.heap.size w w') (h : w.heap[b]? = some x) : w'.heap[b]? = some x := (hb.block b (Array.getElem?_eq_some_iff.1 h).1).trans h
theorem row_alloc {w : World} {b : Nat} {x o : Obj} (h : w.heap[b]? = some x) : (w.alloc o).heap[b]? = some x := row_below ((Below.refl _ _).alloc (Nat.le_refl _) _) h
theorem row_lt {w : World} {b : Nat} {x : Obj} (h : w.heap[b]? = some x) : b < w.heap.size := (Array.getElem?_eq_some_iff.1 h).1
theorem Oth.alloc {w : World} (T : Oth w) {o : Obj} : Oth (w.alloc o) := T.below ((Below.refl _ _).alloc (Nat.le_refl _) _)
def zeroHd : Array Value := #[.int .u8 0, .int .u8 0, .bool false, .bool false, .bool false, .bool false, .bool false, .bool false, .bool false, .int .i64 0, .int .u8 0, .int .u8 0, .int .u8 0, .int .u8 0, .int .u8 0, .int .u8 0, .int .u8 0, .int .u8 0, .int .u8 0, .int .u8 0, .int .u8 0, .int .u8 0, .int .u8 0, .int .u8 0, .int .u8 0, .int .u8 0, .int .u8 0, .int .u8 0, .int .u8 0, .int .u8 0, .int .u8 0, .int .u8 0, .int .u8 0, .int .u8 0, .int .i64 0, .int .i64 0, .int .i64 0, .int .u8 0, .bool false, .bool false]
def dataHd : Array Value := #[.int .u8 2, .int .u8 0, .bool false, .bool false, .bool false, .bool false, .bool false, .bool false, .bool false, .int .i64 50, .int .u8 2, .int .u8 0, .int .u8 0, .int .u8 0, .int .u8 0, .int .u8 9, .int .u8 0, .int .u8 0, .int .u8 0, .int .u8 0, .int .u8 0, .int .u8 0, .int .u8 0, .int .u8 0, .int .u8 0, .int .u8 0, .int .u8 0, .int .u8 0, .int .u8 0, .int .u8 0, .int .u8 0, .int .u8 0, .int .u8 0, .int .u8 0, .int .i64 0, .int .i64 0, .int .i64 0, .int .u8 0, .bool false, .bool false]
def reqHd : Array Value := #[.int .u8 1, .int .u8 11, .bool false, .bool false, .bool false, .bool false, .bool false, .bool false, .bool false, .int .i64 50, .int .u8 2, .int .u8 0, .int .u8 0, .int .u8 0, .int .u8 0, .int .u8 9, .int .u8 0, .int .u8 0, .int .u8 0, .int .u8 0, .int .u8 0, .int .u8 0, .int .u8 0, .int .u8 0, .int .u8 0, .int .u8 0, .int .u8 0, .int .u8 0, .int .u8 0, .int .u8 0, .int .u8 0, .int .u8 0, .int .u8 0, .int .u8 0, .int .i64 0, .int .i64 0, .int .i64 0, .int .u8 0, .bool false, .bool false]
def reqHd2 : Array Value := #[.int .u8 1, .int .u8 11, .bool false, .bool false, .bool false, .bool false, .bool false, .bool false, .bool false, .int .i64 500, .int .u8 2, .int .u8 0, .int .u8 0, .int .u8 0, .int .u8 0, .int .u8 9, .int .u8 0, .int .u8 0, .int .u8 0, .int .u8 0, .int .u8 0, .int .u8 0, .int .u8 0, .int .u8 0, .int .u8 0, .int .u8 0, .int .u8 0, .int .u8 0, .int .u8 0, .int .u8 0, .int .u8 0, .int .u8 0, .int .u8 0, .int .u8 0, .int .i64 0, .int .i64 0, .int .i64 0, .int .u8 0, .bool false, .bool false]
theorem hd_info : (Tryd.prog.info? 48).map (·.size) = some dataHd.size := by kernel_rfl
theorem hd_size1 : zeroHd.size = dataHd.size := rfl
theorem hd_size2 : zeroHd.size = reqHd.size := rfl
theorem hd_info2 : (Tryd.prog.info? 48).map (·.size) = some reqHd.size := by kernel_rfl
theorem hd_info3 : (Tryd.prog.info? 48).map (·.size) = some reqHd2.size := by kernel_rfl
theorem hd_one1 : dataHd.all (·.oneCell') = true := by kernel_rfl
theorem hd_one2 : reqHd.all (·.oneCell') = true := by kernel_rfl
theorem head1 : Head dataHd 2 0 50 2 0 0 0 0 9 := ⟨rfl, rfl, rfl, rfl, rfl, rfl, rfl, rfl, rfl, rfl⟩
theorem head2 : Head reqHd 1 11 50 2 0 0 0 0 9 := ⟨rfl, rfl, rfl, rfl, rfl, rfl, rfl, rfl, rfl, rfl⟩
theorem head3 : Head reqHd2 1 11 500 2 0 0 0 0 9 := ⟨rfl, rfl, rfl, rfl, rfl, rfl, rfl, rfl, rfl, rfl⟩

theorem v1 : heardU 0 0 100 50 (addrB 2 0 0 0 0 9 0 0 0 0 0 0) = 150 := by decide
theorem v2 : heardL 0 0 100 50 20 (addrB 2 0 0 0 0 9 0 0 0 0 0 0) (reqB 2 0) = 0 := by decide
theorem v3 : heardL 0 0 100 50 20 (addrB 2 0 0 0 0 9 0 0 0 0 0 0) (reqB 1 11) = 170 := by decide
theorem v4 : heardU 0 0 100 500 (addrB 2 0 0 0 0 9 0 0 0 0 0 0) = 600 := by decide
theorem v5 : heardL 0 0 100 500 20 (addrB 2 0 0 0 0 9 0 0 0 0 0 0) (reqB 1 11) = 170 := by decide
theorem v6 : earN 150 0 100 1 = 193 := by decide
theorem v7 : earE 150 0 100 1 = 0 := by decide
theorem v8 : untN 150 170 = 150 := by decide
theorem v9 : navE 150 170 = 0 := by decide
theorem v10 : untN 600 170 = 170 := by decide
theorem v11 : navE 600 170 = 0 := by decide

set_option maxHeartbeats 4000000 in
theorem alive_any (w : World) (T : Tab w) (O : Oth w) : Calls Tryd.prog 20 #[] w fun e w' => e = .returned (.bool true) ∧ Below w.heap.size w w' := by
  go_enter Tryd.func20, Tryd.ntmps20
  go_wp2_with fail
  go_loopw [2] (fun i wr => ∃ k : Nat, k ≤ 4 ∧ i = .int .i64 k ∧ Below (w.heap.size + 1) (w.alloc (.cells wantCells 3)) wr) (fun i _ => 4 - (intOf i).toNat)
  case atStart => exact ⟨0, by omega, rfl, Below.refl _ _⟩
  case round =>
    obtain ⟨k, hk, rfl, hB⟩ := hrel
    by_cases hlt : k < 4
    · have c1 : wr.cell? ⟨w.heap.size, k, none⟩ = some (.int .i64 (spaceN k)) := by
        rw [hB.cell (p := ⟨w.heap.size, k, none⟩) (by simp)]
        simpa using want_at k hlt
      have hT : Tab wr := (T.below ((Below.refl _ _).alloc (Nat.le_refl _) _)).below (by simpa using hB)
      have hE := spaceE_lt k hlt
      go_wp2_with fail
      refine (space_any (k : Int) (by omega) _ hT).mono ?_
      rintro e w1 ⟨rfl, hb1⟩
      have hy : w.heap.size < wr.heap.size := by have := hB.size; simp at this; omega
      have c2 : w1.cell? ⟨w.heap.size, k, none⟩ = some (.int .i64 (spaceN k)) := (hb1.cell (p := ⟨w.heap.size, k, none⟩) hy).trans c1
      have hB1 : Below (w.heap.size + 1) (w.alloc (.cells wantCells 3)) w1 := hB.trans (hb1.mono (by omega))
      simp only [hE]
      clear hT c1 hb1
      go_wp2
      go_roundw
      case rel => exact ⟨k + 1, by omega, by go_num, hB1⟩
      case measure => simp [intOf]; omega
    · obtain rfl : k = 4 := by omega
      have hB' : Below (w.alloc (.cells wantCells 3)).heap.size (w.alloc (.cells wantCells 3)) wr := by simpa using hB
      have hT : Tab wr := T.alloc.below hB'
      have hO : Oth wr := (O.below ((Below.refl _ _).alloc (Nat.le_refl _) _)).below hB'
      have hBr : Below w.heap.size w wr := ((Below.refl _ _).alloc (Nat.le_refl _) _).trans (hB.mono (by omega))
      clear T O hB hB'
      have hO0 := Lib.hid hO
      obtain ⟨o0, o1, o2, o3, o4, o5⟩ := hO
      go_wp2_with (first
        | (with_reducible refine wpList_runTo rfl (some 44) rfl (.agg dataHd) wr (by as_aux_lemma => kernel_rfl) ?_; simp only [Act.put, List.setIfInBounds_toArray, List.set_cons_succ, List.set_cons_zero])
        | (with_reducible refine wpList_runTo rfl (some 5) rfl (.pointer (some ⟨wr.heap.size, 0, none⟩)) (wr.alloc (.cells zeroHd 48)) (by as_aux_lemma => kernel_rfl) ?_; simp only [Act.put, List.setIfInBounds_toArray, List.set_cons_succ, List.set_cons_zero])
        | ((with_reducible refine wpList_store_rowTo rfl 48 (.tmp 5) (.tmp 44) rfl rfl wr.heap.size dataHd ?_ ?_ 48 zeroHd (heap_alloc_new _ _) hd_info hd_size1 hd_one1 ?_; (as_aux_lemma => kernel_rfl); (as_aux_lemma => kernel_rfl); rw [setRow_alloc]))
        | (with_reducible refine wpList_load_row rfl 48 (.tmp 5) rfl wr.heap.size rfl 48 dataHd (0, 0) _ (heap_alloc_new _ _) Tryd.underlying48 rfl hd_info ?_))
      refine (heard_in 0 0 0 0 0 0 0 0 dataHd 2 0 50 2 0 0 0 0 9 100 20 head1 (by decide) (by decide) (by decide) (by decide) (by decide) (by decide) (by decide) (by decide) (by decide) (by decide) (by decide) (by decide) (by decide) (by decide) (by decide) (by decide) (by decide) (by decide) (by decide) (by decide) _).mono ?_
      rintro e w1 ⟨rfl, hb1⟩
      simp only [v1, v2]
      have hB1 : Below w.heap.size w w1 := (hBr.alloc hBr.size _).trans (hb1.mono (by have := hBr.size; simp; omega))
      have hT1 : Tab w1 := hT.alloc.below hb1
      have hO1 : Oth w1 := (hO0.out.below ((Below.refl _ _).alloc (Nat.le_refl _) _)).below hb1
      clear hb1 hT hO0 o0 o1 o2 o3 o4 o5
      go_wp2_with fail
      refine (earliest_all 150 0 100 1 (by decide) _ hT1.alloc).mono ?_
      rintro e w2 ⟨rfl, hb2⟩
      simp only [v6, v7]
      have hB2 : Below w.heap.size w w2 := (hB1.alloc hB1.size _).trans (hb2.mono (by have := hB1.size; simp; omega))
      have hT2 : Tab w2 := hT1.alloc.below hb2
      have hO2 : Oth w2 := (hO1.below ((Below.refl _ _).alloc (Nat.le_refl _) _)).below hb2
      have rn2 : w2.heap[w1.heap.size]? = some (.cells #[.int .i64 150, .int .i64 0] 23) := (hb2.block _ (by simp)).trans (heap_alloc_new _ _)
      have hz2 : w1.heap.size < w2.heap.size := by have := hb2.size; simp at this; omega
      clear hb2 hT1 hO1 hB1
      have hO0 := Lib.hid hO2
      have RN2 := Lib.hid rn2
      obtain ⟨o0, o1, o2, o3, o4, o5⟩ := hO2
      clear rn2
      go_wp2_with (first
        | (with_reducible refine wpList_runTo rfl (some 58) rfl (.agg reqHd) w2 (by as_aux_lemma => kernel_rfl) ?_; simp only [Act.put, List.setIfInBounds_toArray, List.set_cons_succ, List.set_cons_zero])
        | (with_reducible refine wpList_runTo rfl (some 10) rfl (.pointer (some ⟨w2.heap.size, 0, none⟩)) (w2.alloc (.cells zeroHd 48)) (by as_aux_lemma => kernel_rfl) ?_; simp only [Act.put, List.setIfInBounds_toArray, List.set_cons_succ, List.set_cons_zero])
        | ((with_reducible refine wpList_store_rowTo rfl 48 (.tmp 10) (.tmp 58) rfl rfl w2.heap.size reqHd ?_ ?_ 48 zeroHd (heap_alloc_new _ _) hd_info2 hd_size2 hd_one2 ?_; (as_aux_lemma => kernel_rfl); (as_aux_lemma => kernel_rfl); rw [setRow_alloc]))
        | (with_reducible refine wpList_load_row rfl 48 (.tmp 10) rfl w2.heap.size rfl 48 reqHd (0, 0) _ (heap_alloc_new _ _) Tryd.underlying48 rfl hd_info2 ?_))
      refine (heard_in 0 0 0 0 0 0 0 0 reqHd 1 11 50 2 0 0 0 0 9 100 20 head2 (by decide) (by decide) (by decide) (by decide) (by decide) (by decide) (by decide) (by decide) (by decide) (by decide) (by decide) (by decide) (by decide) (by decide) (by decide) (by decide) (by decide) (by decide) (by decide) (by decide) _).mono ?_
      rintro e w3 ⟨rfl, hb3⟩
      simp only [v1, v3]
      have hB3 : Below w.heap.size w w3 := (hB2.alloc hB2.size _).trans (hb3.mono (by have := hB2.size; simp; omega))
      have rn3 := row_below hb3 (row_alloc RN2.out)
      have rq3 : w3.heap[w2.heap.size]? = some (.cells reqHd 48) := row_below hb3 (heap_alloc_new _ _)
      have hs2 : w.heap.size ≤ w2.heap.size := hB2.size
      have hs3 : w2.heap.size < w3.heap.size := row_lt rq3
      clear hb3 RN2 hB2 hT2 hO0 o0 o1 o2 o3 o4 o5
      have RN3 := Lib.hid rn3
      have RQ3 := Lib.hid rq3
      clear rn3 rq3
      go_wp2_with fail
      refine (until_all 150 170 _).mono ?_
      rintro e w4 ⟨rfl, hb4⟩
      simp only [v8, v9]
      have hB4 : Below w.heap.size w w4 := (hB3.alloc hB3.size _).trans (hb4.mono (by have := hB3.size; simp; omega))
      have rn4 := row_below hb4 (row_alloc RN3.out)
      have rq4 := row_below hb4 (row_alloc RQ3.out)
      have rp4 : w4.heap[w3.heap.size]? = some (.cells #[.int .i64 150, .int .i64 170] 23) := row_below hb4 (heap_alloc_new _ _)
      clear hb4 RN3 RQ3 hB3
      have q9 : w4.cell? ⟨w2.heap.size, 9, none⟩ = some (.int .i64 50) := (cell_of_row _ _ _ _ _ _ rq4).trans rfl
      have fq : ∀ o, w4.frozen? ⟨w2.heap.size, o, none⟩ = false := fun o => frozen_of_row _ _ _ _ _ rq4
      have yq : w2.heap.size < w4.heap.size := row_lt rq4
      have hne1 : w1.heap.size ≠ w2.heap.size := by omega
      have rq5 : (w4.setCell ⟨w2.heap.size, 9, none⟩ (.int .i64 500)).heap[w2.heap.size]? = some (.cells reqHd2 48 (0, 0)) := heap_setCell_same _ _ _ _ _ _ rq4
      have RQ5 := Lib.hid rq5
      have RN4 := Lib.hid rn4
      have RP4 := Lib.hid rp4
      clear rq4 rq5 rn4 rp4
      go_wp2_with (with_reducible refine wpList_load_row rfl 48 (.tmp 10) rfl w2.heap.size rfl 48 reqHd2 (0, 0) _ RQ5.out Tryd.underlying48 rfl hd_info3 ?_)
      refine (heard_in 0 0 0 0 0 0 0 0 reqHd2 1 11 500 2 0 0 0 0 9 100 20 head3 (by decide) (by decide) (by decide) (by decide) (by decide) (by decide) (by decide) (by decide) (by decide) (by decide) (by decide) (by decide) (by decide) (by decide) (by decide) (by decide) (by decide) (by decide) (by decide) (by decide) _).mono ?_
      rintro e w5 ⟨rfl, hb5⟩
      simp only [v4, v5]
      have hz5 := hb5.size
      simp only [World.size_setCell] at hz5
      have hB5 : Below w.heap.size w w5 := (hB4.setCell (p := ⟨w2.heap.size, 9, none⟩) hs2 _).trans (hb5.mono (by simp only [World.size_setCell]; exact hB4.size))
      have rn5 := row_below hb5 ((heap_setCell_other _ _ _ _ hne1).trans RN4.out)
      have rp5 := row_below hb5 ((heap_setCell_other _ ⟨w2.heap.size, 9, none⟩ _ _ (by simp; omega)).trans RP4.out)
      have RN5 := Lib.hid rn5
      have RP5 := Lib.hid rp5
      clear hb5 RN4 RP4 RQ5 rn5 rp5 q9 fq hB4
      go_wp2_with fail
      refine (until_all 600 170 _).mono ?_
      rintro e w6 ⟨rfl, hb6⟩
      simp only [v10, v11]
      have hB6 : Below w.heap.size w w6 := (hB5.alloc hB5.size _).trans (hb6.mono (by have := hB5.size; simp; omega))
      have rn6 := row_below hb6 (row_alloc RN5.out)
      have rp6 := row_below hb6 (row_alloc RP5.out)
      have rq6 : w6.heap[w5.heap.size]? = some (.cells #[.int .i64 600, .int .i64 170] 23) := row_below hb6 (heap_alloc_new _ _)
      clear hb6 RN5 RP5 hB5
      have m0 : w6.cell? ⟨w1.heap.size, 0, none⟩ = some (.int .i64 150) := (cell_of_row _ _ _ _ _ _ rn6).trans rfl
      have m1 : w6.cell? ⟨w1.heap.size, 1, none⟩ = some (.int .i64 0) := (cell_of_row _ _ _ _ _ _ rn6).trans rfl
      have p0 : w6.cell? ⟨w3.heap.size, 0, none⟩ = some (.int .i64 150) := (cell_of_row _ _ _ _ _ _ rp6).trans rfl
      have p1 : w6.cell? ⟨w3.heap.size, 1, none⟩ = some (.int .i64 170) := (cell_of_row _ _ _ _ _ _ rp6).trans rfl
      have q0 : w6.cell? ⟨w5.heap.size, 0, none⟩ = some (.int .i64 600) := (cell_of_row _ _ _ _ _ _ rq6).trans rfl
      have q1 : w6.cell? ⟨w5.heap.size, 1, none⟩ = some (.int .i64 170) := (cell_of_row _ _ _ _ _ _ rq6).trans rfl
      clear rn6 rp6 rq6
      go_wp2
      go_ret
      exact ⟨rfl, hB6⟩
end Go.Proofs.YtdmaekiejdahoaaDoor
