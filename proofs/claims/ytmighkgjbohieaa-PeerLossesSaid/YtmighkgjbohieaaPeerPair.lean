/-
  Pairs of links in one block; the contracts of the law's ends and paired.
-/
import Derived.Test.YtmighkgjbohieaaPeerList
set_option linter.unusedVariables false
set_option linter.unusedSimpArgs false
namespace Go.Proofs.Ytmighkgjbohieaa
open Go.ChangeShapes Go.WideShapes Go.ChangeAt Go.RowKit Go.Great

def pairCells (x y : Lk) : Array Value := ⟨x.cells.toList ++ y.cells.toList⟩
theorem pair_size (x y : Lk) : (pairCells x y).size = 34 := rfl
theorem pair_info (x y : Lk) : (Try.prog.info? 28).map (·.size) = some (pairCells x y).size := by
  rw [pair_size]
  kernel_rfl
theorem one_mem (k : Lk) : ∀ v ∈ k.cells.toList, v.oneCell' = true := fun v hv => (Array.all_eq_true_iff_forall_mem.1 (one_cells k)) v (by simpa using hv)
theorem pair_one (x y : Lk) : (pairCells x y).all (·.oneCell') = true := by
  rw [Array.all_eq_true_iff_forall_mem]
  intro v hv
  have hv' : v ∈ x.cells.toList ++ y.cells.toList := by simpa [pairCells] using hv
  rcases List.mem_append.1 hv' with h | h
  · exact one_mem x v h
  · exact one_mem y v h
theorem pair_at0 (x y : Lk) (j : Nat) (v : Value) (h : x.cells.toList[j]? = some v) : (pairCells x y)[j]? = some v := by
  rw [← Array.getElem?_toList]
  show (x.cells.toList ++ y.cells.toList)[j]? = some v
  rw [List.getElem?_append_left (List.getElem?_eq_some_iff.1 h).1]
  exact h
theorem pair_at1 (x y : Lk) (j : Nat) (v : Value) (h : y.cells.toList[j]? = some v) : (pairCells x y)[17 + j]? = some v := by
  rw [← Array.getElem?_toList]
  show (x.cells.toList ++ y.cells.toList)[17 + j]? = some v
  have hl : x.cells.toList.length = 17 := rfl
  rw [List.getElem?_append_right (by omega), hl, show 17 + j - 17 = j by omega]
  exact h
theorem range_pair0 {w : World} {b : Nat} {x y : Lk} {t : TypeId} (h : w.heap[b]? = some (.cells (pairCells x y) t)) : w.rangeAt b 0 x.cells.toList := fun j v hv => by
  rw [cell_of_row _ _ _ _ _ _ h, Nat.zero_add]
  exact pair_at0 x y j v hv
theorem range_pair1 {w : World} {b : Nat} {x y : Lk} {t : TypeId} (h : w.heap[b]? = some (.cells (pairCells x y) t)) : w.rangeAt b 17 y.cells.toList := fun j v hv => by
  rw [cell_of_row _ _ _ _ _ _ h]
  exact pair_at1 x y j v hv
theorem wpList_load_sub {P : Program} {ops : Array Oper} {rest : List Oper} {op : Oper} {a : Act} {w : World} {Q : Exit → Act → World → Prop} (hgd : op.guard = none) (ty : TypeId) (x : Operand) (ho : op.op = .load ty x)
    (b o : Nat) (hx : a.eval x = .pointer (some ⟨b, o, none⟩)) (cs : Array Value) (d : TypeDesc) (hc : w.rangeAt b o cs.toList)
    (hu : P.underlying ty = some d) (hd : d.isRow = true) (hi : (P.info? ty).map (·.size) = some cs.size) (h : wpList P ops Q rest (a.put op.dst (.agg cs)) w) : wpList P ops Q (op :: rest) a w :=
  wpList_load_mid hgd ty x ho b o hx cs.toList d hc hu hd (by simpa using hi) (by simpa using h)
/-- The same at an operation with a guard that says yes. -/
theorem wpList_load_subG {P : Program} {ops : Array Oper} {rest : List Oper} {op : Oper} {a : Act} {w : World} {Q : Exit → Act → World → Prop} (hw : Region.wanted op (yielded ops a.tmps) = true) (ty : TypeId) (x : Operand) (ho : op.op = .load ty x)
    (b o : Nat) (hx : a.eval x = .pointer (some ⟨b, o, none⟩)) (cs : Array Value) (d : TypeDesc) (hc : w.rangeAt b o cs.toList)
    (hu : P.underlying ty = some d) (hd : d.isRow = true) (hi : (P.info? ty).map (·.size) = some cs.size) (h : wpList P ops Q rest (a.put op.dst (.agg cs)) w) : wpList P ops Q (op :: rest) a w :=
  wpList_step fun K hK => by
    rw [if_pos hw]
    exact wp_load_mid ty x ho b o hx cs.toList d hc hu hd (by simpa using hi) (hK _ _ (by simpa using h))
/-- What a block holds behind a store of some cells in a row. -/
def putC : Array Value → Nat → List Value → Array Value
  | cs, _, [] => cs
  | cs, o, v :: r => putC (cs.setIfInBounds o v) (o + 1) r
theorem heap_setCells_same (b : Nat) (t : TypeId) : ∀ (vs : List Value) (o : Nat) (w : World) (cs : Array Value), w.heap[b]? = some (.cells cs t (0, 0)) → (w.setCells b o vs).heap[b]? = some (.cells (putC cs o vs) t (0, 0))
  | [], _, _, _, h => h
  | v :: r, o, w, cs, h => heap_setCells_same b t r (o + 1) _ _ (heap_setCell_same w b o cs t v h)
theorem heap_setCells_far (b : Nat) : ∀ (vs : List Value) (o : Nat) (w : World) (i : Nat), i ≠ b → (w.setCells b o vs).heap[i]? = w.heap[i]?
  | [], _, _, _, _ => rfl
  | v :: r, o, w, i, h => (heap_setCells_far b r (o + 1) _ i h).trans (heap_setCell_other w ⟨b, o, .none⟩ i v h)
theorem put_pair0 (x y z : Lk) : putC (pairCells x y) 0 z.cells.toList = pairCells z y := by kernel_rfl
theorem put_pair1 (x y z : Lk) : putC (pairCells x y) 17 z.cells.toList = pairCells x z := by kernel_rfl
theorem there_of_row {w : World} {b : Nat} {cs : Array Value} {t : TypeId} (h : w.heap[b]? = some (.cells cs t (0, 0))) (o n : Nat) (hn : o + n ≤ cs.size) : w.there b o n := fun j hj =>
  ⟨by rw [cell_of_row _ _ _ _ _ _ h]; simp; omega, frozen_of_row _ _ _ _ _ h⟩
theorem size_setCells' (b : Nat) : ∀ (vs : List Value) (o : Nat) (w : World), (w.setCells b o vs).heap.size = w.heap.size
  | [], _, _ => rfl
  | v :: r, o, w => (size_setCells' b r (o + 1) _).trans (World.size_setCell _ _ _)
theorem below_setCells' {B b : Nat} (hb : B ≤ b) : ∀ (vs : List Value) (o : Nat) (w w' : World), Below B w w' → Below B w (w'.setCells b o vs)
  | [], _, _, _, h => h
  | v :: r, o, w, w', h => below_setCells' hb r (o + 1) w _ (h.setCell (p := ⟨b, o, .none⟩) hb v)

def pairedB (x y : Lk) : Bool := (x.st == 4) && ((y.st == 4) && ((x.ot == y.id) && (y.ot == x.id)))
set_option maxHeartbeats 2000000 in
theorem paired_any (x y : Lk) (w : World) : Calls Try.prog 16 #[.agg (pairCells x y)] w fun e w' => e = .returned (.bool (pairedB x y)) ∧ Below w.heap.size w w' := by
  have hc : ((x.st == 4) = false) ∨ ((x.st == 4) = true ∧ (y.st == 4) = false) ∨ ((x.st == 4) = true ∧ (y.st == 4) = true ∧ (x.ot == y.id) = false) ∨ ((x.st == 4) = true ∧ (y.st == 4) = true ∧ (x.ot == y.id) = true ∧ (y.ot == x.id) = false) ∨ ((x.st == 4) = true ∧ (y.st == 4) = true ∧ (x.ot == y.id) = true ∧ (y.ot == x.id) = true) := by
    generalize (x.st == 4) = a
    generalize (y.st == 4) = b
    generalize (x.ot == y.id) = c
    generalize (y.ot == x.id) = d
    cases a <;> cases b <;> cases c <;> cases d <;> simp
  have R0 := Lib.hid (fr_rows1 w (.cells (pairCells x y) 28))
  have HIX := Lib.hid (link_info2 x)
  have HIY := Lib.hid (link_info2 y)
  rcases hc with h1 | ⟨h1, h2⟩ | ⟨h1, h2, h3⟩ | ⟨h1, h2, h3, h4⟩ | ⟨h1, h2, h3, h4⟩
  · have HR := Lib.hid (show pairedB x y = false by simp only [pairedB, h1]; rfl)
    go_enter Try.func16, Try.ntmps16
    go_wp2_with ((with_reducible refine wpList_load_sub rfl 27 (.tmp 3) rfl w.heap.size 0 rfl x.cells _ (range_pair0 R0.out) Try.underlying27 rfl HIX.out ?_))
    refine (up_any x _).mono ?_
    rintro e w1 ⟨rfl, hb1⟩
    have HB1 := Lib.hid (((Below.refl w.heap.size w).alloc (Nat.le_refl _) _).trans (hb1.mono (by simp only [World.size_alloc]; omega)))
    have R1 := Lib.hid (row_below hb1 R0.out)
    clear hb1
    simp only [h1]
    go_wp2
    go_ret
    exact ⟨fr_retb HR.out.symm, HB1.out⟩
  · have HR := Lib.hid (show pairedB x y = false by simp only [pairedB, h1, h2]; rfl)
    go_enter Try.func16, Try.ntmps16
    go_wp2_with ((with_reducible refine wpList_load_sub rfl 27 (.tmp 3) rfl w.heap.size 0 rfl x.cells _ (range_pair0 R0.out) Try.underlying27 rfl HIX.out ?_))
    refine (up_any x _).mono ?_
    rintro e w1 ⟨rfl, hb1⟩
    have HB1 := Lib.hid (((Below.refl w.heap.size w).alloc (Nat.le_refl _) _).trans (hb1.mono (by simp only [World.size_alloc]; omega)))
    have R1 := Lib.hid (row_below hb1 R0.out)
    clear hb1
    simp only [h1]
    go_wp2_with ((with_reducible refine wpList_load_subG ?_ 27 (.tmp 7) rfl w.heap.size 17 rfl y.cells _ (range_pair1 R1.out) Try.underlying27 rfl HIY.out ?_); (as_aux_lemma => kernel_rfl))
    refine (up_any y _).mono ?_
    rintro e w2 ⟨rfl, hb2⟩
    have HB2 := Lib.hid (HB1.out.trans (hb2.mono (by have := HB1.out.size; omega)))
    have R2 := Lib.hid (row_below hb2 R1.out)
    clear hb2
    have c13w2 : w2.cell? ⟨w.heap.size, 13, none⟩ = some (.int .i64 x.id) := (cell_of_row _ _ _ _ _ _ R2.out).trans rfl
    have c14w2 : w2.cell? ⟨w.heap.size, 14, none⟩ = some (.int .i64 x.ot) := (cell_of_row _ _ _ _ _ _ R2.out).trans rfl
    have c30w2 : w2.cell? ⟨w.heap.size, 30, none⟩ = some (.int .i64 y.id) := (cell_of_row _ _ _ _ _ _ R2.out).trans rfl
    have c31w2 : w2.cell? ⟨w.heap.size, 31, none⟩ = some (.int .i64 y.ot) := (cell_of_row _ _ _ _ _ _ R2.out).trans rfl
    have y2 : w.heap.size < w2.heap.size := row_lt R2.out
    simp only [h2]
    go_wp2
    go_ret
    exact ⟨fr_retb HR.out.symm, HB2.out⟩
  · have HR := Lib.hid (show pairedB x y = false by simp only [pairedB, h1, h2, h3]; rfl)
    go_enter Try.func16, Try.ntmps16
    go_wp2_with ((with_reducible refine wpList_load_sub rfl 27 (.tmp 3) rfl w.heap.size 0 rfl x.cells _ (range_pair0 R0.out) Try.underlying27 rfl HIX.out ?_))
    refine (up_any x _).mono ?_
    rintro e w1 ⟨rfl, hb1⟩
    have HB1 := Lib.hid (((Below.refl w.heap.size w).alloc (Nat.le_refl _) _).trans (hb1.mono (by simp only [World.size_alloc]; omega)))
    have R1 := Lib.hid (row_below hb1 R0.out)
    clear hb1
    simp only [h1]
    go_wp2_with ((with_reducible refine wpList_load_subG ?_ 27 (.tmp 7) rfl w.heap.size 17 rfl y.cells _ (range_pair1 R1.out) Try.underlying27 rfl HIY.out ?_); (as_aux_lemma => kernel_rfl))
    refine (up_any y _).mono ?_
    rintro e w2 ⟨rfl, hb2⟩
    have HB2 := Lib.hid (HB1.out.trans (hb2.mono (by have := HB1.out.size; omega)))
    have R2 := Lib.hid (row_below hb2 R1.out)
    clear hb2
    have c13w2 : w2.cell? ⟨w.heap.size, 13, none⟩ = some (.int .i64 x.id) := (cell_of_row _ _ _ _ _ _ R2.out).trans rfl
    have c14w2 : w2.cell? ⟨w.heap.size, 14, none⟩ = some (.int .i64 x.ot) := (cell_of_row _ _ _ _ _ _ R2.out).trans rfl
    have c30w2 : w2.cell? ⟨w.heap.size, 30, none⟩ = some (.int .i64 y.id) := (cell_of_row _ _ _ _ _ _ R2.out).trans rfl
    have c31w2 : w2.cell? ⟨w.heap.size, 31, none⟩ = some (.int .i64 y.ot) := (cell_of_row _ _ _ _ _ _ R2.out).trans rfl
    have y2 : w.heap.size < w2.heap.size := row_lt R2.out
    simp only [h2]
    go_wp2
    go_ret
    exact ⟨fr_retb HR.out.symm, HB2.out⟩
  · have HR := Lib.hid (show pairedB x y = false by simp only [pairedB, h1, h2, h3, h4]; rfl)
    go_enter Try.func16, Try.ntmps16
    go_wp2_with ((with_reducible refine wpList_load_sub rfl 27 (.tmp 3) rfl w.heap.size 0 rfl x.cells _ (range_pair0 R0.out) Try.underlying27 rfl HIX.out ?_))
    refine (up_any x _).mono ?_
    rintro e w1 ⟨rfl, hb1⟩
    have HB1 := Lib.hid (((Below.refl w.heap.size w).alloc (Nat.le_refl _) _).trans (hb1.mono (by simp only [World.size_alloc]; omega)))
    have R1 := Lib.hid (row_below hb1 R0.out)
    clear hb1
    simp only [h1]
    go_wp2_with ((with_reducible refine wpList_load_subG ?_ 27 (.tmp 7) rfl w.heap.size 17 rfl y.cells _ (range_pair1 R1.out) Try.underlying27 rfl HIY.out ?_); (as_aux_lemma => kernel_rfl))
    refine (up_any y _).mono ?_
    rintro e w2 ⟨rfl, hb2⟩
    have HB2 := Lib.hid (HB1.out.trans (hb2.mono (by have := HB1.out.size; omega)))
    have R2 := Lib.hid (row_below hb2 R1.out)
    clear hb2
    have c13w2 : w2.cell? ⟨w.heap.size, 13, none⟩ = some (.int .i64 x.id) := (cell_of_row _ _ _ _ _ _ R2.out).trans rfl
    have c14w2 : w2.cell? ⟨w.heap.size, 14, none⟩ = some (.int .i64 x.ot) := (cell_of_row _ _ _ _ _ _ R2.out).trans rfl
    have c30w2 : w2.cell? ⟨w.heap.size, 30, none⟩ = some (.int .i64 y.id) := (cell_of_row _ _ _ _ _ _ R2.out).trans rfl
    have c31w2 : w2.cell? ⟨w.heap.size, 31, none⟩ = some (.int .i64 y.ot) := (cell_of_row _ _ _ _ _ _ R2.out).trans rfl
    have y2 : w.heap.size < w2.heap.size := row_lt R2.out
    simp only [h2]
    go_wp2
    go_ret
    exact ⟨fr_retb HR.out.symm, HB2.out⟩
  · have HR := Lib.hid (show pairedB x y = true by simp only [pairedB, h1, h2, h3, h4]; rfl)
    go_enter Try.func16, Try.ntmps16
    go_wp2_with ((with_reducible refine wpList_load_sub rfl 27 (.tmp 3) rfl w.heap.size 0 rfl x.cells _ (range_pair0 R0.out) Try.underlying27 rfl HIX.out ?_))
    refine (up_any x _).mono ?_
    rintro e w1 ⟨rfl, hb1⟩
    have HB1 := Lib.hid (((Below.refl w.heap.size w).alloc (Nat.le_refl _) _).trans (hb1.mono (by simp only [World.size_alloc]; omega)))
    have R1 := Lib.hid (row_below hb1 R0.out)
    clear hb1
    simp only [h1]
    go_wp2_with ((with_reducible refine wpList_load_subG ?_ 27 (.tmp 7) rfl w.heap.size 17 rfl y.cells _ (range_pair1 R1.out) Try.underlying27 rfl HIY.out ?_); (as_aux_lemma => kernel_rfl))
    refine (up_any y _).mono ?_
    rintro e w2 ⟨rfl, hb2⟩
    have HB2 := Lib.hid (HB1.out.trans (hb2.mono (by have := HB1.out.size; omega)))
    have R2 := Lib.hid (row_below hb2 R1.out)
    clear hb2
    have c13w2 : w2.cell? ⟨w.heap.size, 13, none⟩ = some (.int .i64 x.id) := (cell_of_row _ _ _ _ _ _ R2.out).trans rfl
    have c14w2 : w2.cell? ⟨w.heap.size, 14, none⟩ = some (.int .i64 x.ot) := (cell_of_row _ _ _ _ _ _ R2.out).trans rfl
    have c30w2 : w2.cell? ⟨w.heap.size, 30, none⟩ = some (.int .i64 y.id) := (cell_of_row _ _ _ _ _ _ R2.out).trans rfl
    have c31w2 : w2.cell? ⟨w.heap.size, 31, none⟩ = some (.int .i64 y.ot) := (cell_of_row _ _ _ _ _ _ R2.out).trans rfl
    have y2 : w.heap.size < w2.heap.size := row_lt R2.out
    simp only [h2]
    go_wp2
    go_ret
    exact ⟨fr_retb HR.out.symm, HB2.out⟩
end Go.Proofs.Ytmighkgjbohieaa
