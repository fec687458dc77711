/-
  The contract of peer.begun: an end to work with, or an error.
-/
import Derived.Test.YtmighkgjbohieaaPeerCheck
set_option linter.unusedVariables false
set_option linter.unusedSimpArgs false
namespace Go.Proofs.Ytmighkgjbohieaa
open Go.ChangeShapes Go.WideShapes Go.ChangeAt Go.RowKit Go.Great

theorem check_else (k : Lk) (hB : k.By) (hs : ¬ (0 ≤ k.st ∧ k.st ≤ 5)) (w : World) : Calls Try.prog 14 #[.agg k.cells] w fun e w' => e = .returned (.int .i64 k.chk) ∧ Below w.heap.size w w' := by
  have hr : k.rest = false := by
    simp only [Lk.rest]
    repeat (first | rw [if_neg (by omega)] | rfl)
  have hr2 := Lib.hid (show k.chk = 8 by simp only [Lk.chk, Lk.ok, hr, Bool.and_false, Bool.and_self]; rfl)
  clear hr hB
  have s0 : (k.st == 0) = false := by simp; omega
  have s1 : (k.st == 1) = false := by simp; omega
  have s2 : (k.st == 2) = false := by simp; omega
  have s3 : (k.st == 3) = false := by simp; omega
  have s4 : (k.st == 4) = false := by simp; omega
  have s5 : (k.st == 5) = false := by simp; omega
  clear hs
  unfold Lk.cells
  go_enter Try.func14, Try.ntmps14
  go_wp2
  go_ret
  exact ⟨fr_ret hr2.out.symm, by go_grown⟩
theorem check_any (k : Lk) (hB : k.By) (w : World) : Calls Try.prog 14 #[.agg k.cells] w fun e w' => e = .returned (.int .i64 k.chk) ∧ Below w.heap.size w w' := by
  by_cases hs : 0 ≤ k.st ∧ k.st ≤ 5
  · have h6 : k.st = 0 ∨ k.st = 1 ∨ k.st = 2 ∨ k.st = 3 ∨ k.st = 4 ∨ k.st = 5 := by omega
    rcases h6 with h | h | h | h | h | h
    · exact check_0 k hB h w
    · exact check_1 k hB h w
    · exact check_2 k hB h w
    · exact check_3 k hB h w
    · exact check_4 k hB h w
    · exact check_5 k hB h w
  · exact check_else k hB hs w

/-- What begun hands back where all is well: an end in new memory. -/
def BegunOk (k : Lk) (now : Int) (w : World) (e : Ending) (w' : World) : Prop := ∃ b, e = .returned (.tuple #[.pointer (some ⟨b, 0, none⟩), .int .i64 0]) ∧ EndAt w' b k now [] ∧ w.heap.size ≤ b ∧ Below w.heap.size w w'

theorem link_info : (Try.prog.info? 27).map (·.size) = some 17 := by kernel_rfl
theorem cells_size (k : Lk) : k.cells.size = 17 := rfl
theorem link_info2 (k : Lk) : (Try.prog.info? 27).map (·.size) = some k.cells.size := link_info
set_option maxHeartbeats 1000000 in
theorem begun_bad (k : Lk) (hB : k.By) (now : Int) (h : k.chk = 8) (w : World) : Calls Try.prog 36 #[.agg k.cells, .int .i64 now] w fun e w' => e = .returned (.tuple #[.pointer none, .int .i64 8]) ∧ Below w.heap.size w w' := by
  have R0 := Lib.hid (fr_rows1 w (.cells k.cells 27))
  have HI := Lib.hid (link_info2 k)
  go_enter Try.func36, Try.ntmps36
  go_wp2_with (with_reducible refine wpList_load_row rfl 27 (.tmp 2) rfl w.heap.size rfl 27 k.cells (0, 0) _ R0.out Try.underlying27 rfl HI.out ?_)
  refine (check_any k hB _).mono ?_
  rintro e w1 ⟨rfl, hb1⟩
  have hB1 : Below w.heap.size w w1 := ((Below.refl _ _).alloc (Nat.le_refl _) _).trans (hb1.mono (by simp only [World.size_alloc]; omega))
  have R1 := Lib.hid (row_below hb1 R0.out)
  simp only [h]
  clear hb1 R0
  go_wp2
  go_ret2
  exact ⟨rfl, hB1⟩
set_option maxHeartbeats 1000000 in
theorem begun_arg (k : Lk) (hB : k.By) (now : Int) (h : k.chk = 0) (ht : btw now 0 1099511627776 = false) (w : World) : Calls Try.prog 36 #[.agg k.cells, .int .i64 now] w fun e w' => e = .returned (.tuple #[.pointer none, .int .i64 2]) ∧ Below w.heap.size w w' := by
  have R0 := Lib.hid (fr_rows1 w (.cells k.cells 27))
  have HI := Lib.hid (link_info2 k)
  go_enter Try.func36, Try.ntmps36
  go_wp2_with (with_reducible refine wpList_load_row rfl 27 (.tmp 2) rfl w.heap.size rfl 27 k.cells (0, 0) _ R0.out Try.underlying27 rfl HI.out ?_)
  refine (check_any k hB _).mono ?_
  rintro e w1 ⟨rfl, hb1⟩
  have hB1 : Below w.heap.size w w1 := ((Below.refl _ _).alloc (Nat.le_refl _) _).trans (hb1.mono (by simp only [World.size_alloc]; omega))
  have R1 := Lib.hid (row_below hb1 R0.out)
  simp only [h]
  clear hb1 R0
  go_wp2_with fail
  refine (between_any now 0 1099511627776 _).mono ?_
  rintro e w' ⟨rfl, rfl⟩
  simp only [ht]
  go_wp2
  go_ret2
  exact ⟨rfl, hB1⟩
set_option maxHeartbeats 1000000 in
theorem begun_ok (k : Lk) (hB : k.By) (now : Int) (h : k.chk = 0) (ht : btw now 0 1099511627776 = true) (w : World) : Calls Try.prog 36 #[.agg k.cells, .int .i64 now] w (BegunOk k now w) := by
  have R0 := Lib.hid (fr_rows1 w (.cells k.cells 27))
  have HI := Lib.hid (link_info2 k)
  go_enter Try.func36, Try.ntmps36
  go_wp2_with (with_reducible refine wpList_load_row rfl 27 (.tmp 2) rfl w.heap.size rfl 27 k.cells (0, 0) _ R0.out Try.underlying27 rfl HI.out ?_)
  refine (check_any k hB _).mono ?_
  rintro e w1 ⟨rfl, hb1⟩
  have hB1 : Below w.heap.size w w1 := ((Below.refl _ _).alloc (Nat.le_refl _) _).trans (hb1.mono (by simp only [World.size_alloc]; omega))
  have R1 := Lib.hid (row_below hb1 R0.out)
  simp only [h]
  clear hb1 R0
  go_wp2_with fail
  refine (between_any now 0 1099511627776 _).mono ?_
  rintro e w' ⟨rfl, rfl⟩
  simp only [ht]
  go_wp2_with (first
    | (with_reducible refine wpList_load_row rfl 27 (.tmp 2) rfl w.heap.size rfl 27 k.cells (0, 0) _ R1.out Try.underlying27 rfl HI.out ?_)
    | (with_reducible refine wpList_runTo rfl (some 17) rfl (.agg (endCells k now (.slice none 0 0))) w1 (by as_aux_lemma => kernel_rfl) ?_; simp only [Act.put, List.setIfInBounds_toArray, List.set_cons_succ, List.set_cons_zero])
    | (with_reducible refine wpList_runTo rfl (some 18) rfl (.pointer (some ⟨w1.heap.size, 0, none⟩)) (w1.alloc (.cells (endCells k now (.slice none 0 0)) 72)) (by as_aux_lemma => kernel_rfl) ?_; simp only [Act.put, List.setIfInBounds_toArray, List.set_cons_succ, List.set_cons_zero]))
  go_ret2
  exact ⟨w1.heap.size, rfl, ⟨_, heap_alloc_new _ _, outAt_nil _ _⟩, hB1.size, hB1.alloc hB1.size _⟩
theorem chk_two (k : Lk) : k.chk = 0 ∨ k.chk = 8 := by simp only [Lk.chk]; split <;> simp
end Go.Proofs.Ytmighkgjbohieaa
