/-
  Contracts of the reference's small functions: waits, known, waiting, up, ended, shut.
-/
import Derived.Test.YtmighkgjbohieaaPeerAux
import Derived.Test.YtmighkgjbohieaaPeerRunP
set_option linter.unusedVariables false
set_option linter.unusedSimpArgs false
namespace Go.Proofs.Ytmighkgjbohieaa
open Go.ChangeShapes Go.WideShapes Go.ChangeAt Go.RowKit Go.Great

def waitsB (k : Lk) : Bool := (k.st == 1) || ((k.st == 2) || (k.st == 3))
def knownB (k : Lk) : Bool := (k.st == 2) || ((k.st == 3) || (k.st == 4))
theorem waits_any (k : Lk) (w : World) : Calls Try.prog 46 #[.agg k.cells] w fun e w' => e = .returned (.bool (waitsB k)) ∧ Below w.heap.size w w' := by
  have R0 := Lib.hid (fr_rows1 w (.cells k.cells 27))
  have s12 : (w.alloc (.cells k.cells 27)).cell? ⟨w.heap.size, 12, none⟩ = some (.int .u8 k.st) := (cell_of_row _ _ _ _ _ _ R0.out).trans (lk_st k)
  clear R0
  have hc : ((k.st == 1) = true) ∨ ((k.st == 1) = false ∧ (k.st == 2) = true) ∨ ((k.st == 1) = false ∧ (k.st == 2) = false ∧ (k.st == 3) = true) ∨ ((k.st == 1) = false ∧ (k.st == 2) = false ∧ (k.st == 3) = false) := by
    generalize (k.st == 1) = a
    generalize (k.st == 2) = b
    generalize (k.st == 3) = c
    cases a <;> cases b <;> cases c <;> simp
  rcases hc with h1 | ⟨h1, h2⟩ | ⟨h1, h2, h3⟩ | ⟨h1, h2, h3⟩
  · have HR := Lib.hid (show waitsB k = true by simp only [waitsB, h1]; rfl)
    go_enter Try.func46, Try.ntmps46
    go_wp2
    go_ret
    exact ⟨fr_retb HR.out.symm, by go_grown⟩
  · have HR := Lib.hid (show waitsB k = true by simp only [waitsB, h1, h2]; rfl)
    go_enter Try.func46, Try.ntmps46
    go_wp2
    go_ret
    exact ⟨fr_retb HR.out.symm, by go_grown⟩
  · have HR := Lib.hid (show waitsB k = true by simp only [waitsB, h1, h2, h3]; rfl)
    go_enter Try.func46, Try.ntmps46
    go_wp2
    go_ret
    exact ⟨fr_retb HR.out.symm, by go_grown⟩
  · have HR := Lib.hid (show waitsB k = false by simp only [waitsB, h1, h2, h3]; rfl)
    go_enter Try.func46, Try.ntmps46
    go_wp2
    go_ret
    exact ⟨fr_retb HR.out.symm, by go_grown⟩
theorem known_any (k : Lk) (w : World) : Calls Try.prog 51 #[.agg k.cells] w fun e w' => e = .returned (.bool (knownB k)) ∧ Below w.heap.size w w' := by
  have R0 := Lib.hid (fr_rows1 w (.cells k.cells 27))
  have s12 : (w.alloc (.cells k.cells 27)).cell? ⟨w.heap.size, 12, none⟩ = some (.int .u8 k.st) := (cell_of_row _ _ _ _ _ _ R0.out).trans (lk_st k)
  clear R0
  have hc : ((k.st == 2) = true) ∨ ((k.st == 2) = false ∧ (k.st == 3) = true) ∨ ((k.st == 2) = false ∧ (k.st == 3) = false ∧ (k.st == 4) = true) ∨ ((k.st == 2) = false ∧ (k.st == 3) = false ∧ (k.st == 4) = false) := by
    generalize (k.st == 2) = a
    generalize (k.st == 3) = b
    generalize (k.st == 4) = c
    cases a <;> cases b <;> cases c <;> simp
  rcases hc with h1 | ⟨h1, h2⟩ | ⟨h1, h2, h3⟩ | ⟨h1, h2, h3⟩
  · have HR := Lib.hid (show knownB k = true by simp only [knownB, h1]; rfl)
    go_enter Try.func51, Try.ntmps51
    go_wp2
    go_ret
    exact ⟨fr_retb HR.out.symm, by go_grown⟩
  · have HR := Lib.hid (show knownB k = true by simp only [knownB, h1, h2]; rfl)
    go_enter Try.func51, Try.ntmps51
    go_wp2
    go_ret
    exact ⟨fr_retb HR.out.symm, by go_grown⟩
  · have HR := Lib.hid (show knownB k = true by simp only [knownB, h1, h2, h3]; rfl)
    go_enter Try.func51, Try.ntmps51
    go_wp2
    go_ret
    exact ⟨fr_retb HR.out.symm, by go_grown⟩
  · have HR := Lib.hid (show knownB k = false by simp only [knownB, h1, h2, h3]; rfl)
    go_enter Try.func51, Try.ntmps51
    go_wp2
    go_ret
    exact ⟨fr_retb HR.out.symm, by go_grown⟩
theorem results_row1 {P : Program} {fn : Func} {p : Tmp} {ty : TypeId} (h : fn.results = #[.cell p ty]) (tmps : Array Value) (w : World) (g : Nat) (t : TypeId) (cs : Array Value) (fr : Nat × Nat) (d : TypeDesc)
    (hp : tmps.getD p undef = .pointer (some ⟨g, 0, none⟩)) (hg : w.heap[g]? = some (.cells cs t fr))
    (hu : P.underlying ty = some d) (hd : (match d with | .struct _ | .array _ _ => true | _ => false) = true) (hi : (P.info? ty).map (·.size) = some cs.size) :
    (results fn tmps).run P w = .ok (.agg cs) w := results_cell_row h tmps w g t cs fr d hp hg hu hd hi
set_option maxHeartbeats 2000000 in
theorem ref_waiting (k : Lk) (st now : Int) (hn0 : 0 ≤ now) (hn1 : now ≤ 1099511627776) (w : World) : Calls Try.prog 45 #[.agg k.cells, .int .u8 st, .int .i64 now] w fun e w' => e = .returned (.agg (waitK k st now).cells) ∧ Below w.heap.size w w' := by
  obtain ⟨q0, q1⟩ := fr_rows2 w (.cells k.cells 27) (.cells #[.int .u8 0, .int .u8 0, .int .u8 0, .int .u8 0, .int .u8 0, .int .u8 0, .int .u8 0, .int .u8 0, .int .u8 0, .int .u8 0, .int .u8 0, .int .u8 0, .int .u8 0, .int .i64 0, .int .i64 0, .int .i64 0, .int .i64 0] 27)
  obtain ⟨r0, r1⟩ := fr_rows2 w (.cells (((k.cells.setIfInBounds 12 (.int .u8 st)).setIfInBounds 15 (.int .i64 1)).setIfInBounds 16 (.int .i64 (now + 40000))) 27) (.cells #[.int .u8 0, .int .u8 0, .int .u8 0, .int .u8 0, .int .u8 0, .int .u8 0, .int .u8 0, .int .u8 0, .int .u8 0, .int .u8 0, .int .u8 0, .int .u8 0, .int .u8 0, .int .i64 0, .int .i64 0, .int .i64 0, .int .i64 0] 27)
  have HI := Lib.hid (link_info2 (waitK k st now))
  have RK := Lib.hid (show ((w.alloc (.cells (((k.cells.setIfInBounds 12 (.int .u8 st)).setIfInBounds 15 (.int .i64 1)).setIfInBounds 16 (.int .i64 (now + 40000))) 27)).alloc (.cells #[.int .u8 0, .int .u8 0, .int .u8 0, .int .u8 0, .int .u8 0, .int .u8 0, .int .u8 0, .int .u8 0, .int .u8 0, .int .u8 0, .int .u8 0, .int .u8 0, .int .u8 0, .int .i64 0, .int .i64 0, .int .i64 0, .int .i64 0] 27)).heap[w.heap.size]? = some (.cells (waitK k st now).cells 27) from r0)
  have RZ := Lib.hid r1
  have HBX := Lib.hid (show Below w.heap.size w ((w.alloc (.cells (((k.cells.setIfInBounds 12 (.int .u8 st)).setIfInBounds 15 (.int .i64 1)).setIfInBounds 16 (.int .i64 (now + 40000))) 27)).alloc (.cells #[.int .u8 0, .int .u8 0, .int .u8 0, .int .u8 0, .int .u8 0, .int .u8 0, .int .u8 0, .int .u8 0, .int .u8 0, .int .u8 0, .int .u8 0, .int .u8 0, .int .u8 0, .int .i64 0, .int .i64 0, .int .i64 0, .int .i64 0] 27)) from below_more (below_more (Below.refl _ _) _) _)
  have c12 : ((w.alloc (.cells k.cells 27)).alloc (.cells #[.int .u8 0, .int .u8 0, .int .u8 0, .int .u8 0, .int .u8 0, .int .u8 0, .int .u8 0, .int .u8 0, .int .u8 0, .int .u8 0, .int .u8 0, .int .u8 0, .int .u8 0, .int .i64 0, .int .i64 0, .int .i64 0, .int .i64 0] 27)).cell? ⟨w.heap.size, 12, none⟩ = some (.int .u8 k.st) := (cell_of_row _ _ _ _ _ _ q0).trans rfl
  have c15 : ((w.alloc (.cells k.cells 27)).alloc (.cells #[.int .u8 0, .int .u8 0, .int .u8 0, .int .u8 0, .int .u8 0, .int .u8 0, .int .u8 0, .int .u8 0, .int .u8 0, .int .u8 0, .int .u8 0, .int .u8 0, .int .u8 0, .int .i64 0, .int .i64 0, .int .i64 0, .int .i64 0] 27)).cell? ⟨w.heap.size, 15, none⟩ = some (.int .i64 k.tr) := (cell_of_row _ _ _ _ _ _ q0).trans rfl
  have c16 : ((w.alloc (.cells k.cells 27)).alloc (.cells #[.int .u8 0, .int .u8 0, .int .u8 0, .int .u8 0, .int .u8 0, .int .u8 0, .int .u8 0, .int .u8 0, .int .u8 0, .int .u8 0, .int .u8 0, .int .u8 0, .int .u8 0, .int .i64 0, .int .i64 0, .int .i64 0, .int .i64 0] 27)).cell? ⟨w.heap.size, 16, none⟩ = some (.int .i64 k.du) := (cell_of_row _ _ _ _ _ _ q0).trans rfl
  have cf : ∀ o, ((w.alloc (.cells k.cells 27)).alloc (.cells #[.int .u8 0, .int .u8 0, .int .u8 0, .int .u8 0, .int .u8 0, .int .u8 0, .int .u8 0, .int .u8 0, .int .u8 0, .int .u8 0, .int .u8 0, .int .u8 0, .int .u8 0, .int .i64 0, .int .i64 0, .int .i64 0, .int .i64 0] 27)).frozen? ⟨w.heap.size, o, none⟩ = false := fun o => frozen_of_row _ _ _ _ _ q0
  clear r0 r1 q0 q1
  go_enter Try.func45, Try.ntmps45
  go_wp2_with (first
    | (with_reducible refine wpList_load_row rfl 27 (.tmp 3) rfl (w.heap.size) rfl 27 ((waitK k st now).cells) (0, 0) _ RK.out Try.underlying27 rfl HI.out ?_)
    | ((with_reducible refine wpList_store_rowTo rfl 27 (.tmp 6) (.tmp 13) rfl rfl (w.heap.size + 1) ((waitK k st now).cells) ?_ ?_ 27 (#[.int .u8 0, .int .u8 0, .int .u8 0, .int .u8 0, .int .u8 0, .int .u8 0, .int .u8 0, .int .u8 0, .int .u8 0, .int .u8 0, .int .u8 0, .int .u8 0, .int .u8 0, .int .i64 0, .int .i64 0, .int .i64 0, .int .i64 0]) RZ.out HI.out rfl (one_cells _) ?_); (as_aux_lemma => kernel_rfl); (as_aux_lemma => kernel_rfl)))
  refine bodyPost_ret (results_row1 rfl _ _ (w.heap.size + 1) 27 (waitK k st now).cells (0, 0) _ rfl (setRow_heap _ _ _ _ _ _ RZ.out) Try.underlying27 rfl HI.out) rfl ?_
  exact ⟨rfl, below_setRow' HBX.out (Nat.le_succ _) _⟩
set_option maxHeartbeats 2000000 in
theorem ref_up (k : Lk) (w : World) : Calls Try.prog 50 #[.agg k.cells] w fun e w' => e = .returned (.agg (upK k).cells) ∧ Below w.heap.size w w' := by
  obtain ⟨q0, q1⟩ := fr_rows2 w (.cells k.cells 27) (.cells #[.int .u8 0, .int .u8 0, .int .u8 0, .int .u8 0, .int .u8 0, .int .u8 0, .int .u8 0, .int .u8 0, .int .u8 0, .int .u8 0, .int .u8 0, .int .u8 0, .int .u8 0, .int .i64 0, .int .i64 0, .int .i64 0, .int .i64 0] 27)
  obtain ⟨r0, r1⟩ := fr_rows2 w (.cells (((k.cells.setIfInBounds 12 (.int .u8 4)).setIfInBounds 15 (.int .i64 0)).setIfInBounds 16 (.int .i64 0)) 27) (.cells #[.int .u8 0, .int .u8 0, .int .u8 0, .int .u8 0, .int .u8 0, .int .u8 0, .int .u8 0, .int .u8 0, .int .u8 0, .int .u8 0, .int .u8 0, .int .u8 0, .int .u8 0, .int .i64 0, .int .i64 0, .int .i64 0, .int .i64 0] 27)
  have HI := Lib.hid (link_info2 (upK k))
  have RK := Lib.hid (show ((w.alloc (.cells (((k.cells.setIfInBounds 12 (.int .u8 4)).setIfInBounds 15 (.int .i64 0)).setIfInBounds 16 (.int .i64 0)) 27)).alloc (.cells #[.int .u8 0, .int .u8 0, .int .u8 0, .int .u8 0, .int .u8 0, .int .u8 0, .int .u8 0, .int .u8 0, .int .u8 0, .int .u8 0, .int .u8 0, .int .u8 0, .int .u8 0, .int .i64 0, .int .i64 0, .int .i64 0, .int .i64 0] 27)).heap[w.heap.size]? = some (.cells (upK k).cells 27) from r0)
  have RZ := Lib.hid r1
  have HBX := Lib.hid (show Below w.heap.size w ((w.alloc (.cells (((k.cells.setIfInBounds 12 (.int .u8 4)).setIfInBounds 15 (.int .i64 0)).setIfInBounds 16 (.int .i64 0)) 27)).alloc (.cells #[.int .u8 0, .int .u8 0, .int .u8 0, .int .u8 0, .int .u8 0, .int .u8 0, .int .u8 0, .int .u8 0, .int .u8 0, .int .u8 0, .int .u8 0, .int .u8 0, .int .u8 0, .int .i64 0, .int .i64 0, .int .i64 0, .int .i64 0] 27)) from below_more (below_more (Below.refl _ _) _) _)
  have c12 : ((w.alloc (.cells k.cells 27)).alloc (.cells #[.int .u8 0, .int .u8 0, .int .u8 0, .int .u8 0, .int .u8 0, .int .u8 0, .int .u8 0, .int .u8 0, .int .u8 0, .int .u8 0, .int .u8 0, .int .u8 0, .int .u8 0, .int .i64 0, .int .i64 0, .int .i64 0, .int .i64 0] 27)).cell? ⟨w.heap.size, 12, none⟩ = some (.int .u8 k.st) := (cell_of_row _ _ _ _ _ _ q0).trans rfl
  have c15 : ((w.alloc (.cells k.cells 27)).alloc (.cells #[.int .u8 0, .int .u8 0, .int .u8 0, .int .u8 0, .int .u8 0, .int .u8 0, .int .u8 0, .int .u8 0, .int .u8 0, .int .u8 0, .int .u8 0, .int .u8 0, .int .u8 0, .int .i64 0, .int .i64 0, .int .i64 0, .int .i64 0] 27)).cell? ⟨w.heap.size, 15, none⟩ = some (.int .i64 k.tr) := (cell_of_row _ _ _ _ _ _ q0).trans rfl
  have c16 : ((w.alloc (.cells k.cells 27)).alloc (.cells #[.int .u8 0, .int .u8 0, .int .u8 0, .int .u8 0, .int .u8 0, .int .u8 0, .int .u8 0, .int .u8 0, .int .u8 0, .int .u8 0, .int .u8 0, .int .u8 0, .int .u8 0, .int .i64 0, .int .i64 0, .int .i64 0, .int .i64 0] 27)).cell? ⟨w.heap.size, 16, none⟩ = some (.int .i64 k.du) := (cell_of_row _ _ _ _ _ _ q0).trans rfl
  have cf : ∀ o, ((w.alloc (.cells k.cells 27)).alloc (.cells #[.int .u8 0, .int .u8 0, .int .u8 0, .int .u8 0, .int .u8 0, .int .u8 0, .int .u8 0, .int .u8 0, .int .u8 0, .int .u8 0, .int .u8 0, .int .u8 0, .int .u8 0, .int .i64 0, .int .i64 0, .int .i64 0, .int .i64 0] 27)).frozen? ⟨w.heap.size, o, none⟩ = false := fun o => frozen_of_row _ _ _ _ _ q0
  clear r0 r1 q0 q1
  go_enter Try.func50, Try.ntmps50
  go_wp2_with (first
    | (with_reducible refine wpList_load_row rfl 27 (.tmp 1) rfl (w.heap.size) rfl 27 ((upK k).cells) (0, 0) _ RK.out Try.underlying27 rfl HI.out ?_)
    | ((with_reducible refine wpList_store_rowTo rfl 27 (.tmp 2) (.tmp 6) rfl rfl (w.heap.size + 1) ((upK k).cells) ?_ ?_ 27 (#[.int .u8 0, .int .u8 0, .int .u8 0, .int .u8 0, .int .u8 0, .int .u8 0, .int .u8 0, .int .u8 0, .int .u8 0, .int .u8 0, .int .u8 0, .int .u8 0, .int .u8 0, .int .i64 0, .int .i64 0, .int .i64 0, .int .i64 0]) RZ.out HI.out rfl (one_cells _) ?_); (as_aux_lemma => kernel_rfl); (as_aux_lemma => kernel_rfl)))
  refine bodyPost_ret (results_row1 rfl _ _ (w.heap.size + 1) 27 (upK k).cells (0, 0) _ rfl (setRow_heap _ _ _ _ _ _ RZ.out) Try.underlying27 rfl HI.out) rfl ?_
  exact ⟨rfl, below_setRow' HBX.out (Nat.le_succ _) _⟩
def endK (k : Lk) : Lk := { k with st := 0, ot := 0, tr := 0, du := 0, id := k.id % 65535 + 1 }
set_option maxHeartbeats 2000000 in
theorem ref_ended (k : Lk) (h0 : 1 ≤ k.id) (h1 : k.id ≤ 65535) (w : World) : Calls Try.prog 48 #[.agg k.cells] w fun e w' => e = .returned (.agg (endK k).cells) ∧ Below w.heap.size w w' := by
  obtain ⟨q0, q1⟩ := fr_rows2 w (.cells k.cells 27) (.cells #[.int .u8 0, .int .u8 0, .int .u8 0, .int .u8 0, .int .u8 0, .int .u8 0, .int .u8 0, .int .u8 0, .int .u8 0, .int .u8 0, .int .u8 0, .int .u8 0, .int .u8 0, .int .i64 0, .int .i64 0, .int .i64 0, .int .i64 0] 27)
  have c0 : ((w.alloc (.cells k.cells 27)).alloc (.cells #[.int .u8 0, .int .u8 0, .int .u8 0, .int .u8 0, .int .u8 0, .int .u8 0, .int .u8 0, .int .u8 0, .int .u8 0, .int .u8 0, .int .u8 0, .int .u8 0, .int .u8 0, .int .i64 0, .int .i64 0, .int .i64 0, .int .i64 0] 27)).cell? ⟨w.heap.size, 0, none⟩ = some (.int .u8 k.o0) := (cell_of_row _ _ _ _ _ _ q0).trans rfl
  have c1 : ((w.alloc (.cells k.cells 27)).alloc (.cells #[.int .u8 0, .int .u8 0, .int .u8 0, .int .u8 0, .int .u8 0, .int .u8 0, .int .u8 0, .int .u8 0, .int .u8 0, .int .u8 0, .int .u8 0, .int .u8 0, .int .u8 0, .int .i64 0, .int .i64 0, .int .i64 0, .int .i64 0] 27)).cell? ⟨w.heap.size, 1, none⟩ = some (.int .u8 k.o1) := (cell_of_row _ _ _ _ _ _ q0).trans rfl
  have c2 : ((w.alloc (.cells k.cells 27)).alloc (.cells #[.int .u8 0, .int .u8 0, .int .u8 0, .int .u8 0, .int .u8 0, .int .u8 0, .int .u8 0, .int .u8 0, .int .u8 0, .int .u8 0, .int .u8 0, .int .u8 0, .int .u8 0, .int .i64 0, .int .i64 0, .int .i64 0, .int .i64 0] 27)).cell? ⟨w.heap.size, 2, none⟩ = some (.int .u8 k.o2) := (cell_of_row _ _ _ _ _ _ q0).trans rfl
  have c3 : ((w.alloc (.cells k.cells 27)).alloc (.cells #[.int .u8 0, .int .u8 0, .int .u8 0, .int .u8 0, .int .u8 0, .int .u8 0, .int .u8 0, .int .u8 0, .int .u8 0, .int .u8 0, .int .u8 0, .int .u8 0, .int .u8 0, .int .i64 0, .int .i64 0, .int .i64 0, .int .i64 0] 27)).cell? ⟨w.heap.size, 3, none⟩ = some (.int .u8 k.o3) := (cell_of_row _ _ _ _ _ _ q0).trans rfl
  have c4 : ((w.alloc (.cells k.cells 27)).alloc (.cells #[.int .u8 0, .int .u8 0, .int .u8 0, .int .u8 0, .int .u8 0, .int .u8 0, .int .u8 0, .int .u8 0, .int .u8 0, .int .u8 0, .int .u8 0, .int .u8 0, .int .u8 0, .int .i64 0, .int .i64 0, .int .i64 0, .int .i64 0] 27)).cell? ⟨w.heap.size, 4, none⟩ = some (.int .u8 k.o4) := (cell_of_row _ _ _ _ _ _ q0).trans rfl
  have c5 : ((w.alloc (.cells k.cells 27)).alloc (.cells #[.int .u8 0, .int .u8 0, .int .u8 0, .int .u8 0, .int .u8 0, .int .u8 0, .int .u8 0, .int .u8 0, .int .u8 0, .int .u8 0, .int .u8 0, .int .u8 0, .int .u8 0, .int .i64 0, .int .i64 0, .int .i64 0, .int .i64 0] 27)).cell? ⟨w.heap.size, 5, none⟩ = some (.int .u8 k.o5) := (cell_of_row _ _ _ _ _ _ q0).trans rfl
  have c6 : ((w.alloc (.cells k.cells 27)).alloc (.cells #[.int .u8 0, .int .u8 0, .int .u8 0, .int .u8 0, .int .u8 0, .int .u8 0, .int .u8 0, .int .u8 0, .int .u8 0, .int .u8 0, .int .u8 0, .int .u8 0, .int .u8 0, .int .i64 0, .int .i64 0, .int .i64 0, .int .i64 0] 27)).cell? ⟨w.heap.size, 6, none⟩ = some (.int .u8 k.p0) := (cell_of_row _ _ _ _ _ _ q0).trans rfl
  have c7 : ((w.alloc (.cells k.cells 27)).alloc (.cells #[.int .u8 0, .int .u8 0, .int .u8 0, .int .u8 0, .int .u8 0, .int .u8 0, .int .u8 0, .int .u8 0, .int .u8 0, .int .u8 0, .int .u8 0, .int .u8 0, .int .u8 0, .int .i64 0, .int .i64 0, .int .i64 0, .int .i64 0] 27)).cell? ⟨w.heap.size, 7, none⟩ = some (.int .u8 k.p1) := (cell_of_row _ _ _ _ _ _ q0).trans rfl
  have c8 : ((w.alloc (.cells k.cells 27)).alloc (.cells #[.int .u8 0, .int .u8 0, .int .u8 0, .int .u8 0, .int .u8 0, .int .u8 0, .int .u8 0, .int .u8 0, .int .u8 0, .int .u8 0, .int .u8 0, .int .u8 0, .int .u8 0, .int .i64 0, .int .i64 0, .int .i64 0, .int .i64 0] 27)).cell? ⟨w.heap.size, 8, none⟩ = some (.int .u8 k.p2) := (cell_of_row _ _ _ _ _ _ q0).trans rfl
  have c9 : ((w.alloc (.cells k.cells 27)).alloc (.cells #[.int .u8 0, .int .u8 0, .int .u8 0, .int .u8 0, .int .u8 0, .int .u8 0, .int .u8 0, .int .u8 0, .int .u8 0, .int .u8 0, .int .u8 0, .int .u8 0, .int .u8 0, .int .i64 0, .int .i64 0, .int .i64 0, .int .i64 0] 27)).cell? ⟨w.heap.size, 9, none⟩ = some (.int .u8 k.p3) := (cell_of_row _ _ _ _ _ _ q0).trans rfl
  have c10 : ((w.alloc (.cells k.cells 27)).alloc (.cells #[.int .u8 0, .int .u8 0, .int .u8 0, .int .u8 0, .int .u8 0, .int .u8 0, .int .u8 0, .int .u8 0, .int .u8 0, .int .u8 0, .int .u8 0, .int .u8 0, .int .u8 0, .int .i64 0, .int .i64 0, .int .i64 0, .int .i64 0] 27)).cell? ⟨w.heap.size, 10, none⟩ = some (.int .u8 k.p4) := (cell_of_row _ _ _ _ _ _ q0).trans rfl
  have c11 : ((w.alloc (.cells k.cells 27)).alloc (.cells #[.int .u8 0, .int .u8 0, .int .u8 0, .int .u8 0, .int .u8 0, .int .u8 0, .int .u8 0, .int .u8 0, .int .u8 0, .int .u8 0, .int .u8 0, .int .u8 0, .int .u8 0, .int .i64 0, .int .i64 0, .int .i64 0, .int .i64 0] 27)).cell? ⟨w.heap.size, 11, none⟩ = some (.int .u8 k.p5) := (cell_of_row _ _ _ _ _ _ q0).trans rfl
  have c13 : ((w.alloc (.cells k.cells 27)).alloc (.cells #[.int .u8 0, .int .u8 0, .int .u8 0, .int .u8 0, .int .u8 0, .int .u8 0, .int .u8 0, .int .u8 0, .int .u8 0, .int .u8 0, .int .u8 0, .int .u8 0, .int .u8 0, .int .i64 0, .int .i64 0, .int .i64 0, .int .i64 0] 27)).cell? ⟨w.heap.size, 13, none⟩ = some (.int .i64 k.id) := (cell_of_row _ _ _ _ _ _ q0).trans rfl
  have RZ := Lib.hid q1
  have HI := Lib.hid (link_info2 (endK k))
  have HBX := Lib.hid (show Below w.heap.size w ((w.alloc (.cells k.cells 27)).alloc (.cells #[.int .u8 0, .int .u8 0, .int .u8 0, .int .u8 0, .int .u8 0, .int .u8 0, .int .u8 0, .int .u8 0, .int .u8 0, .int .u8 0, .int .u8 0, .int .u8 0, .int .u8 0, .int .i64 0, .int .i64 0, .int .i64 0, .int .i64 0] 27)) from below_more (below_more (Below.refl _ _) _) _)
  clear q0 q1
  by_cases hm : k.id = 65535
  · have hE : endK k = ({ k with st := 0, id := 1, ot := 0, tr := 0, du := 0 } : Lk) := by simp only [endK]; rw [show k.id % 65535 + 1 = 1 by omega]
    have hgt : (65535 : Int) < k.id + 1 := by omega
    rw [hE] at HI
    rw [hE]
    clear hE
    go_enter Try.func48, Try.ntmps48
    go_wp2_with ((with_reducible refine wpList_store_rowTo rfl 27 (.tmp 2) (.tmp 14) rfl rfl (w.heap.size + 1) (({ k with st := 0, id := 1, ot := 0, tr := 0, du := 0 } : Lk).cells) ?_ ?_ 27 (#[.int .u8 0, .int .u8 0, .int .u8 0, .int .u8 0, .int .u8 0, .int .u8 0, .int .u8 0, .int .u8 0, .int .u8 0, .int .u8 0, .int .u8 0, .int .u8 0, .int .u8 0, .int .i64 0, .int .i64 0, .int .i64 0, .int .i64 0]) RZ.out HI.out rfl (one_cells _) ?_); (as_aux_lemma => kernel_rfl); (as_aux_lemma => kernel_rfl))
    refine bodyPost_ret (results_row1 rfl _ _ (w.heap.size + 1) 27 (({ k with st := 0, id := 1, ot := 0, tr := 0, du := 0 } : Lk).cells) (0, 0) _ rfl (setRow_heap _ _ _ _ _ _ RZ.out) Try.underlying27 rfl HI.out) rfl ?_
    exact ⟨rfl, below_setRow' HBX.out (Nat.le_succ _) _⟩
  · have hE : endK k = ({ k with st := 0, id := (k.id + 1), ot := 0, tr := 0, du := 0 } : Lk) := by simp only [endK]; rw [show k.id % 65535 + 1 = (k.id + 1) by omega]
    have hgt : k.id + 1 ≤ 65535 := by omega
    rw [hE] at HI
    rw [hE]
    clear hE
    go_enter Try.func48, Try.ntmps48
    go_wp2_with ((with_reducible refine wpList_store_rowTo rfl 27 (.tmp 2) (.tmp 14) rfl rfl (w.heap.size + 1) (({ k with st := 0, id := (k.id + 1), ot := 0, tr := 0, du := 0 } : Lk).cells) ?_ ?_ 27 (#[.int .u8 0, .int .u8 0, .int .u8 0, .int .u8 0, .int .u8 0, .int .u8 0, .int .u8 0, .int .u8 0, .int .u8 0, .int .u8 0, .int .u8 0, .int .u8 0, .int .u8 0, .int .i64 0, .int .i64 0, .int .i64 0, .int .i64 0]) RZ.out HI.out rfl (one_cells _) ?_); (as_aux_lemma => kernel_rfl); (as_aux_lemma => kernel_rfl))
    refine bodyPost_ret (results_row1 rfl _ _ (w.heap.size + 1) 27 (({ k with st := 0, id := (k.id + 1), ot := 0, tr := 0, du := 0 } : Lk).cells) (0, 0) _ rfl (setRow_heap _ _ _ _ _ _ RZ.out) Try.underlying27 rfl HI.out) rfl ?_
    exact ⟨rfl, below_setRow' HBX.out (Nat.le_succ _) _⟩
theorem out_lit {w : World} {base b : Nat} {x : Value} {m : List Int} (h : w.heap[b]? = some (.cells #[x] 45)) (hb : base ≤ b) (hx : MsgAt w base x m) : OutAt w base (.slice (some ⟨b, 0, none⟩) 1 1) [m] := by
  refine ⟨[x], ⟨rfl, .inr ⟨b, 1, #[x], rfl, hb, h, Nat.le_refl _, by unfold maxLen; decide, rfl, rfl⟩⟩, fun i m' hi => ?_⟩
  match i, hi with
  | 0, hi => cases hi; exact ⟨x, rfl, hx⟩
  | i + 1, hi => simp at hi
theorem MsgAt.below {w w' : World} {base : Nat} {x : Value} {m : List Int} (h : MsgAt w base x m) (hb : Below w.heap.size w w') : MsgAt w' base x m := by
  obtain ⟨b, rfl, h1, h2⟩ := h
  exact ⟨b, rfl, h1, row_below hb h2⟩
def ShutR (w : World) (k : Lk) (ms : List (List Int)) (e : Ending) (w' : World) : Prop := ∃ v, e = .returned (.tuple #[.agg k.cells, v]) ∧ OutAt w' w.heap.size v ms ∧ Below w.heap.size w w'
theorem MsgAt.less {w : World} {base base' : Nat} {x : Value} {m : List Int} (h : MsgAt w base x m) (hb : base' ≤ base) : MsgAt w base' x m := by
  obtain ⟨b, rfl, h1, h2⟩ := h
  exact ⟨b, rfl, Nat.le_trans hb h1, h2⟩
set_option maxHeartbeats 2000000 in
theorem ref_shut (k : Lk) (h0 : 1 ≤ k.id) (h1 : k.id ≤ 65535) (g0 : 0 ≤ k.ot) (g1 : k.ot ≤ 65535) (now : Int) (hn0 : 0 ≤ now) (hn1 : now ≤ 1099511627776) (w : World) : Calls Try.prog 47 #[.agg k.cells, .int .i64 now] w (ShutR w (clK k now) [msgOf 3 k.id k.ot]) := by
  obtain ⟨q0, q1⟩ := fr_rows2 w (.cells k.cells 27) (.cells #[.int .u8 0, .int .u8 0, .int .u8 0, .int .u8 0, .int .u8 0, .int .u8 0, .int .u8 0, .int .u8 0, .int .u8 0, .int .u8 0, .int .u8 0, .int .u8 0, .int .u8 0, .int .i64 0, .int .i64 0, .int .i64 0, .int .i64 0] 27)
  have Q0 := Lib.hid q0
  have Q1 := Lib.hid q1
  have HI := Lib.hid (link_info2 (clK k now))
  have c13 : ((w.alloc (.cells k.cells 27)).alloc (.cells #[.int .u8 0, .int .u8 0, .int .u8 0, .int .u8 0, .int .u8 0, .int .u8 0, .int .u8 0, .int .u8 0, .int .u8 0, .int .u8 0, .int .u8 0, .int .u8 0, .int .u8 0, .int .i64 0, .int .i64 0, .int .i64 0, .int .i64 0] 27)).cell? ⟨w.heap.size, 13, none⟩ = some (.int .i64 k.id) := (cell_of_row _ _ _ _ _ _ q0).trans rfl
  have c14 : ((w.alloc (.cells k.cells 27)).alloc (.cells #[.int .u8 0, .int .u8 0, .int .u8 0, .int .u8 0, .int .u8 0, .int .u8 0, .int .u8 0, .int .u8 0, .int .u8 0, .int .u8 0, .int .u8 0, .int .u8 0, .int .u8 0, .int .i64 0, .int .i64 0, .int .i64 0, .int .i64 0] 27)).cell? ⟨w.heap.size, 14, none⟩ = some (.int .i64 k.ot) := (cell_of_row _ _ _ _ _ _ q0).trans rfl
  clear q0 q1
  go_enter Try.func47, Try.ntmps47
  go_wp2_with fail
  refine (shut_any k.id k.ot (by omega) h1 g0 g1 _).mono ?_
  rintro e w1 ⟨v, rfl, hM, hb⟩
  obtain ⟨mb, rfl⟩ := msg_form hM rfl
  have P0 := Lib.hid (row_alloc (o := .cells #[.slice (some ⟨mb, 0, none⟩) 5 5] 45) (row_below hb Q0.out))
  have P1 := Lib.hid (row_alloc (o := .cells #[.slice (some ⟨mb, 0, none⟩) 5 5] 45) (row_below hb Q1.out))
  have HM := Lib.hid (hM.below ((Below.refl w1.heap.size w1).alloc (Nat.le_refl _) (.cells #[.slice (some ⟨mb, 0, none⟩) 5 5] 45)))
  have HB := Lib.hid (below_more (below_step (show Below w.heap.size w ((w.alloc (.cells k.cells 27)).alloc (.cells #[.int .u8 0, .int .u8 0, .int .u8 0, .int .u8 0, .int .u8 0, .int .u8 0, .int .u8 0, .int .u8 0, .int .u8 0, .int .u8 0, .int .u8 0, .int .u8 0, .int .u8 0, .int .i64 0, .int .i64 0, .int .i64 0, .int .i64 0] 27)) from below_more (below_more (Below.refl _ _) _) _) hb) (.cells #[.slice (some ⟨mb, 0, none⟩) 5 5] 45))
  have hz : w.heap.size + 1 < w1.heap.size := row_lt (row_below hb Q1.out)
  clear hM hb Q0 Q1 c13 c14
  have c12 : (w1.alloc (.cells #[.slice (some ⟨mb, 0, none⟩) 5 5] 45)).cell? ⟨w.heap.size, 12, none⟩ = some (.int .u8 k.st) := (cell_of_row _ _ _ _ _ _ P0.out).trans rfl
  have c15 : (w1.alloc (.cells #[.slice (some ⟨mb, 0, none⟩) 5 5] 45)).cell? ⟨w.heap.size, 15, none⟩ = some (.int .i64 k.tr) := (cell_of_row _ _ _ _ _ _ P0.out).trans rfl
  have c16 : (w1.alloc (.cells #[.slice (some ⟨mb, 0, none⟩) 5 5] 45)).cell? ⟨w.heap.size, 16, none⟩ = some (.int .i64 k.du) := (cell_of_row _ _ _ _ _ _ P0.out).trans rfl
  have cf : ∀ o, (w1.alloc (.cells #[.slice (some ⟨mb, 0, none⟩) 5 5] 45)).frozen? ⟨w.heap.size, o, none⟩ = false := fun o => frozen_of_row _ _ _ _ _ P0.out
  have RK := Lib.hid (show ((((w1.alloc (.cells #[.slice (some ⟨mb, 0, none⟩) 5 5] 45)).setCell ⟨w.heap.size, 12, none⟩ (.int .u8 5)).setCell ⟨w.heap.size, 15, none⟩ (.int .i64 0)).setCell ⟨w.heap.size, 16, none⟩ (.int .i64 (now + 40000))).heap[w.heap.size]? = some (.cells (clK k now).cells 27) from heap_setCell_same _ _ 16 _ _ _ (heap_setCell_same _ _ 15 _ _ _ (heap_setCell_same _ _ 12 _ _ _ P0.out)))
  have RZ := Lib.hid (show ((((w1.alloc (.cells #[.slice (some ⟨mb, 0, none⟩) 5 5] 45)).setCell ⟨w.heap.size, 12, none⟩ (.int .u8 5)).setCell ⟨w.heap.size, 15, none⟩ (.int .i64 0)).setCell ⟨w.heap.size, 16, none⟩ (.int .i64 (now + 40000))).heap[w.heap.size + 1]? = some (.cells #[.int .u8 0, .int .u8 0, .int .u8 0, .int .u8 0, .int .u8 0, .int .u8 0, .int .u8 0, .int .u8 0, .int .u8 0, .int .u8 0, .int .u8 0, .int .u8 0, .int .u8 0, .int .i64 0, .int .i64 0, .int .i64 0, .int .i64 0] 27) from row_set (by simp only []; omega) (row_set (by simp only []; omega) (row_set (by simp only []; omega) P1.out)))
  go_wp2_with (first
    | (with_reducible refine wpList_load_row rfl 27 (.tmp 2) rfl (w.heap.size) rfl 27 ((clK k now).cells) (0, 0) _ RK.out Try.underlying27 rfl HI.out ?_)
    | ((with_reducible refine wpList_store_rowTo rfl 27 (.tmp 4) (.tmp 18) rfl rfl (w.heap.size + 1) ((clK k now).cells) ?_ ?_ 27 (#[.int .u8 0, .int .u8 0, .int .u8 0, .int .u8 0, .int .u8 0, .int .u8 0, .int .u8 0, .int .u8 0, .int .u8 0, .int .u8 0, .int .u8 0, .int .u8 0, .int .u8 0, .int .i64 0, .int .i64 0, .int .i64 0, .int .i64 0]) RZ.out HI.out rfl (one_cells _) ?_); (as_aux_lemma => kernel_rfl); (as_aux_lemma => kernel_rfl)))
  refine bodyPost_ret (results_row2 rfl _ _ (w.heap.size + 1) 27 (clK k now).cells (0, 0) _ rfl (setRow_heap _ _ _ _ _ _ RZ.out) Try.underlying27 rfl HI.out) rfl ?_
  refine ⟨_, rfl, ?_, below_setRow' (((HB.out.setCell (p := ⟨w.heap.size, 12, none⟩) (Nat.le_refl _) _).setCell (p := ⟨w.heap.size, 15, none⟩) (Nat.le_refl _) _).setCell (p := ⟨w.heap.size, 16, none⟩) (Nat.le_refl _) _) (Nat.le_succ _) _⟩
  have hL := out_lit (base := w.heap.size + 2) (heap_alloc_new w1 (.cells #[.slice (some ⟨mb, 0, none⟩) 5 5] 45)) hz (MsgAt.less HM.out (by simp only [World.size_alloc]; exact Nat.le_refl _))
  have kp : ∀ (W : World) (p : Addr) (u : Value), p.block = w.heap.size → ∀ b, w.heap.size + 2 ≤ b → b < W.heap.size → (W.setCell p u).heap[b]? = W.heap[b]? := fun W p u hp b hb _ => heap_setCell_other _ _ _ _ (by omega)
  exact ((((hL.kept (kp _ ⟨w.heap.size, 12, none⟩ (.int .u8 5) rfl)).kept (kp _ ⟨w.heap.size, 15, none⟩ (.int .i64 0) rfl)).kept (kp _ ⟨w.heap.size, 16, none⟩ (.int .i64 (now + 40000)) rfl)).kept (fun b hb _ => setRow_other _ _ _ _ (by omega))).mono (by omega)
theorem chk_bad {k : Lk} (h : ¬ (k.same = false ∧ (1 ≤ k.id ∧ k.id ≤ 65535) ∧ k.Shape)) : k.chk = 8 := by
  rcases chk_two k with h1 | h1
  · exact absurd ((chk_shape k).1 h1) h
  · exact h1
end Go.Proofs.Ytmighkgjbohieaa
