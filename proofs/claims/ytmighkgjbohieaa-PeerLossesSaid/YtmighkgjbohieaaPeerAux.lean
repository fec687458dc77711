/-
  Small laws for the last walks.
-/
import Derived.Test.YtmighkgjbohieaaPeerPlain
set_option linter.unusedVariables false
set_option linter.unusedSimpArgs false
namespace Go.Proofs.Ytmighkgjbohieaa
open Go.ChangeShapes Go.WideShapes Go.ChangeAt Go.RowKit Go.Great

theorem below_step {w X w2 : World} (h : Below w.heap.size w X) (hb : Below X.heap.size X w2) : Below w.heap.size w w2 := h.trans (hb.mono h.size)
theorem below_more {w X : World} (h : Below w.heap.size w X) (o : Obj) : Below w.heap.size w (X.alloc o) := h.alloc h.size o
theorem lt_alloc (w : World) (o : Obj) : w.heap.size < (w.alloc o).heap.size := by rw [World.size_alloc]; exact Nat.lt_succ_self _
theorem ListOk.one {ok : Nat → Prop} {w : World} {ao : Option Addr} {n c : Nat} {m : List Int} (h : ListOk ok w (.slice ao n c) [m]) : ∃ b o mv, ao = some ⟨b, o, none⟩ ∧ ok b ∧ w.cell? ⟨b, o, none⟩ = some mv ∧ MsgIn w mv m := by
  obtain ⟨ao', cap, e, _, _, h3⟩ := h
  cases e
  obtain ⟨b, o, rfl, hb, hc⟩ := h3 (by simp)
  obtain ⟨x, hx, _, hm, _⟩ := hc 0 m rfl
  exact ⟨b, o, x, rfl, hb, hx, hm⟩
theorem one_ok {m : List Int} (h : MsgOk m) : ∀ x ∈ [m], MsgOk x := fun x hx => by rw [List.mem_singleton.1 hx]; exact h
theorem no_ok : ∀ x ∈ ([] : List (List Int)), MsgOk x := fun x hx => by cases hx
theorem out_info (a b : Value) : (Try.prog.info? 40).map (·.size) = some (#[a, b] : Array Value).size := by kernel_rfl
theorem ret_of {w : World} {r : Res} {k : Lk} {ms : List (List Int)} {er : Int} {f : FuncId} {vs : Array Value} (e : r = (k, ms, er)) (h : Calls Try.prog f vs w (RetR w r)) : Calls Try.prog f vs w (Ret3 w k ms er) := by
  rw [retR e] at h
  exact h
theorem pc12 (x y : Lk) : (pairCells x y)[12]? = some (.int .u8 x.st) := rfl
theorem pc13 (x y : Lk) : (pairCells x y)[13]? = some (.int .i64 x.id) := rfl
theorem pc14 (x y : Lk) : (pairCells x y)[14]? = some (.int .i64 x.ot) := rfl
theorem pc29 (x y : Lk) : (pairCells x y)[29]? = some (.int .u8 y.st) := rfl
theorem pc30 (x y : Lk) : (pairCells x y)[30]? = some (.int .i64 y.id) := rfl
theorem pc31 (x y : Lk) : (pairCells x y)[31]? = some (.int .i64 y.ot) := rfl
end Go.Proofs.Ytmighkgjbohieaa
