/-
  The contract of rate.table: it returns the twelve rates; nothing that lay in memory is changed.
-/
import Derived.Test.YtpcndmpdiaceeaaRows
import Derived.Test.YtpcndmpdiaceeaaFrame
import Derived.Great.Walk
import Derived.Outline
import Derived.Handy
namespace Go.Proofs.Ytpcndmpdiaceeaa
open Go.ChangeShapes Go.WideShapes Go.ChangeAt Go.RowKit Go.Great

/-- The table's cells. -/
def tabCells : Array Value := #[.int .i64 24, .int .i64 (-820), .bool true, .int .i64 36, .int .i64 (-808), .bool false, .int .i64 48, .int .i64 (-788), .bool true, .int .i64 72, .int .i64 (-768), .bool false, .int .i64 100, .int .i64 (-738), .bool true, .int .i64 148, .int .i64 (-702), .bool false, .int .i64 196, .int .i64 (-664), .bool false, .int .i64 220, .int .i64 (-652), .bool false, .int .i64 264, .int .i64 (-640), .bool false, .int .i64 316, .int .i64 (-590), .bool false, .int .i64 396, .int .i64 (-568), .bool false, .int .i64 476, .int .i64 (-538), .bool false]
def tabZero : Array Value := #[.int .i64 0, .int .i64 0, .bool false, .int .i64 0, .int .i64 0, .bool false, .int .i64 0, .int .i64 0, .bool false, .int .i64 0, .int .i64 0, .bool false, .int .i64 0, .int .i64 0, .bool false, .int .i64 0, .int .i64 0, .bool false, .int .i64 0, .int .i64 0, .bool false, .int .i64 0, .int .i64 0, .bool false, .int .i64 0, .int .i64 0, .bool false, .int .i64 0, .int .i64 0, .bool false, .int .i64 0, .int .i64 0, .bool false, .int .i64 0, .int .i64 0, .bool false]
def rBits (i : Int) : Int := [24, 36, 48, 72, 100, 148, 196, 220, 264, 316, 396, 476].getD i.toNat 0
def rNeed (i : Int) : Int := [-820, -808, -788, -768, -738, -702, -664, -652, -640, -590, -568, -538].getD i.toNat 0
def rBasic (i : Int) : Bool := [true, false, true, false, true, false, false, false, false, false, false, false].getD i.toNat false

theorem setRow_alloc (w : World) (c cs : Array Value) (t : TypeId) : (w.alloc (.cells c t)).setRow w.heap.size cs = w.alloc (.cells cs t) := by
  have h : (w.heap.push (Obj.cells c t)).modify w.heap.size (fun | .cells _ elem frozen => .cells cs elem frozen | o => o) = w.heap.push (Obj.cells cs t) := by
    apply Array.ext
    · simp
    · intro i h1 h2
      simp only [Array.getElem_modify, Array.getElem_push]
      simp only [Array.size_push] at h2
      by_cases hi : i < w.heap.size
      · simp [hi]; omega
      · have : i = w.heap.size := by omega
        subst this
        simp
  show ({ w with heap := _ } : World) = _
  exact congrArg (fun hp => ({ w with heap := hp } : World)) h

theorem tab_info : (Try.prog.info? 45).map (·.size) = some tabCells.size := by kernel_rfl
theorem tab_size : tabZero.size = tabCells.size := by kernel_rfl
theorem tab_one : tabCells.all (·.oneCell') = true := by kernel_rfl
theorem tab_result (tmps : Array Value) (w : World) (hp : tmps.getD 0 undef = .pointer (some ⟨w.heap.size, 0, none⟩)) :
    (results Try.f29 tmps).run Try.prog (w.alloc (.cells tabCells 45)) = .ok (.agg tabCells) (w.alloc (.cells tabCells 45)) :=
  results_cell_row (ty := 45) (by kernel_rfl) tmps _ w.heap.size 45 tabCells (0, 0) _ hp (heap_alloc_new _ _) Try.underlying45 rfl (by kernel_rfl)

set_option maxRecDepth 100000 in
theorem table_any (w : World) : Calls Try.prog 29 #[] w fun e w' => e = .returned (.agg tabCells) ∧ Below w.heap.size w w' := by
  go_enter Try.func29, Try.ntmps29
  go_wp2_with (first | (with_reducible refine wpList_runTo rfl (some 0) rfl (.pointer (some ⟨w.heap.size, 0, none⟩)) (w.alloc (.cells tabZero 45)) (by as_aux_lemma => kernel_rfl) ?_) | (with_reducible refine wpList_readTo rfl (some 1) rfl (.agg #[.int .i64 24, .int .i64 (-820), .bool true]) (by as_aux_lemma => kernel_rfl) ?_) | (with_reducible refine wpList_readTo rfl (some 2) rfl (.agg #[.int .i64 36, .int .i64 (-808), .bool false]) (by as_aux_lemma => kernel_rfl) ?_) | (with_reducible refine wpList_readTo rfl (some 3) rfl (.agg #[.int .i64 48, .int .i64 (-788), .bool true]) (by as_aux_lemma => kernel_rfl) ?_) | (with_reducible refine wpList_readTo rfl (some 4) rfl (.agg #[.int .i64 72, .int .i64 (-768), .bool false]) (by as_aux_lemma => kernel_rfl) ?_) | (with_reducible refine wpList_readTo rfl (some 5) rfl (.agg #[.int .i64 100, .int .i64 (-738), .bool true]) (by as_aux_lemma => kernel_rfl) ?_) | (with_reducible refine wpList_readTo rfl (some 6) rfl (.agg #[.int .i64 148, .int .i64 (-702), .bool false]) (by as_aux_lemma => kernel_rfl) ?_) | (with_reducible refine wpList_readTo rfl (some 7) rfl (.agg #[.int .i64 196, .int .i64 (-664), .bool false]) (by as_aux_lemma => kernel_rfl) ?_) | (with_reducible refine wpList_readTo rfl (some 8) rfl (.agg #[.int .i64 220, .int .i64 (-652), .bool false]) (by as_aux_lemma => kernel_rfl) ?_) | (with_reducible refine wpList_readTo rfl (some 9) rfl (.agg #[.int .i64 264, .int .i64 (-640), .bool false]) (by as_aux_lemma => kernel_rfl) ?_) | (with_reducible refine wpList_readTo rfl (some 10) rfl (.agg #[.int .i64 316, .int .i64 (-590), .bool false]) (by as_aux_lemma => kernel_rfl) ?_) | (with_reducible refine wpList_readTo rfl (some 11) rfl (.agg #[.int .i64 396, .int .i64 (-568), .bool false]) (by as_aux_lemma => kernel_rfl) ?_) | (with_reducible refine wpList_readTo rfl (some 12) rfl (.agg #[.int .i64 476, .int .i64 (-538), .bool false]) (by as_aux_lemma => kernel_rfl) ?_) | (with_reducible refine wpList_readTo rfl (some 13) rfl (.agg tabCells) (by as_aux_lemma => kernel_rfl) ?_) | ((with_reducible refine wpList_store_rowTo rfl 45 (.tmp 0) (.tmp 13) rfl rfl w.heap.size tabCells ?_ ?_ 45 tabZero (heap_alloc_new _ _) tab_info tab_size tab_one ?_; (as_aux_lemma => kernel_rfl); (as_aux_lemma => kernel_rfl); rw [setRow_alloc])) | fail)
  refine bodyPost_ret (v := .agg tabCells) ?_ ?_ ?_
  · exact tab_result _ _ (by as_aux_lemma => kernel_rfl)
  · as_aux_lemma => kernel_rfl
  · exact ⟨rfl, (Below.refl _ _).alloc (Nat.le_refl _) _⟩
end Go.Proofs.Ytpcndmpdiaceeaa
