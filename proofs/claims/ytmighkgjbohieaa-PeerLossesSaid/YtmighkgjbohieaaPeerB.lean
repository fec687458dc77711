/-
  The contracts of the methods of peer's end: send, wait, up, close, finish.
-/
import Derived.Test.YtmighkgjbohieaaPeer
set_option linter.unusedVariables false
set_option linter.unusedSimpArgs false
namespace Go.Proofs.Ytmighkgjbohieaa
open Go.ChangeShapes Go.WideShapes Go.ChangeAt Go.RowKit Go.Great

theorem wrap_u8 (x : Int) : IntKind.u8.wrap x = x % 256 := by
  simp [IntKind.wrap, IntKind.bits, IntKind.signed]
theorem OutAt.setEnd {w : World} {b : Nat} {v : Value} {ms : List (List Int)} (h : OutAt w (b + 1) v ms) (i : Nat) (u : Value) : OutAt (w.setCell ⟨b, i, none⟩ u) (b + 1) v ms := by
  obtain ⟨xs, ho, hm⟩ := h
  refine ⟨xs, ⟨ho.1, ?_⟩, fun i m hi => ?_⟩
  · rcases ho.2 with h0 | ⟨g, cap, cur, h1, h2, h3, h4⟩
    · exact .inl h0
    · exact .inr ⟨g, cap, cur, h1, h2, row_set (by simp; omega) h3, h4⟩
  · obtain ⟨x, hx, hmm⟩ := hm i m hi
    exact ⟨x, hx, hmm.keep fun c hc _ _ => heap_setCell_other _ _ _ _ (by simp; omega)⟩
theorem EndAt.below {w w' : World} {b : Nat} {k : Lk} {now : Int} {ms : List (List Int)} (h : EndAt w b k now ms) (hb : Below w.heap.size w w') : EndAt w' b k now ms := by
  obtain ⟨v, hr, ho⟩ := h
  exact ⟨v, row_below hb hr, ho.below hb⟩
theorem EndAt.lt {w : World} {b : Nat} {k : Lk} {now : Int} {ms : List (List Int)} (h : EndAt w b k now ms) : b < w.heap.size := by
  obtain ⟨v, hr, ho⟩ := h
  exact row_lt hr

theorem send_end (b : Nat) (k : Lk) (now : Int) (ms : List (List Int)) (kind other : Int) (hn : ms.length ≤ 3) (hid0 : 0 ≤ k.id) (hid1 : k.id ≤ 65535) (ho0 : 0 ≤ other) (ho1 : other ≤ 65535) (w : World) (h : EndAt w b k now ms) :
    Calls Try.prog 37 #[.pointer (some ⟨b, 0, none⟩), .int .u8 kind, .int .i64 other] w fun e w' => e = .returned (.tuple #[]) ∧ EndAt w' b k now (ms ++ [msgOf kind k.id other]) ∧ Below b w w' := by
  obtain ⟨v, hr, xs, hown, hm⟩ := h
  refine (send_raw b k now v ms.length xs kind other hn hid0 hid1 ho0 ho1 w hr hown).mono ?_
  rintro e w' ⟨rfl, v', bm, h1, h2, h3, h4, h5, h6⟩
  refine ⟨rfl, ⟨v', h1, xs ++ [.slice (some ⟨bm, 0, none⟩) 5 5], by simpa using h2, fun i m hi => ?_⟩, h5⟩
  have hlen : xs.length = ms.length := by simpa using hown.1
  by_cases hlt : i < ms.length
  · rw [List.getElem?_append_left hlt] at hi
    obtain ⟨x, hx, hmm⟩ := hm i m hi
    refine ⟨x, by rw [List.getElem?_append_left (by omega)]; exact hx, hmm.keep fun c hc hcl hcn => h6 c hcl (by omega) hcn⟩
  · rw [List.getElem?_append_right (by omega)] at hi
    have hi0 : i = ms.length := by
      rcases Nat.lt_or_ge 0 (i - ms.length) with h | h
      · rw [List.getElem?_eq_none (by simp; omega)] at hi; cases hi
      · omega
    subst hi0
    simp at hi
    subst hi
    refine ⟨_, by rw [List.getElem?_append_right (by omega), hlen]; simp; rfl, bm, rfl, h3, ?_⟩
    rw [h4]
    simp only [msgCells, msgOf, List.map_cons, List.map_nil, wrap_u8]

set_option maxHeartbeats 1000000 in
theorem wait_end (b : Nat) (k : Lk) (now : Int) (ms : List (List Int)) (st : Int) (hn0 : 0 ≤ now) (hn1 : now ≤ 1099511627776) (w : World) (h : EndAt w b k now ms) :
    Calls Try.prog 38 #[.pointer (some ⟨b, 0, none⟩), .int .u8 st] w fun e w' => e = .returned (.tuple #[]) ∧ EndAt w' b { k with st := st, tr := 1, du := now + 40000 } now ms ∧ Below b w w' := by
  obtain ⟨v, hr, ho⟩ := h
  have HR := Lib.hid hr
  have HO := Lib.hid ho
  have c12 : w.cell? ⟨b, 12, none⟩ = some (.int .u8 k.st) := (cell_of_row _ _ _ _ _ _ hr).trans rfl
  have c15 : w.cell? ⟨b, 15, none⟩ = some (.int .i64 k.tr) := (cell_of_row _ _ _ _ _ _ hr).trans rfl
  have c16 : w.cell? ⟨b, 16, none⟩ = some (.int .i64 k.du) := (cell_of_row _ _ _ _ _ _ hr).trans rfl
  have c17 : w.cell? ⟨b, 17, none⟩ = some (.int .i64 now) := (cell_of_row _ _ _ _ _ _ hr).trans rfl
  have hf : ∀ o, w.frozen? ⟨b, o, none⟩ = false := fun o => frozen_of_row _ _ _ _ _ hr
  clear hr ho
  go_enter Try.func38, Try.ntmps38
  go_wp2
  go_end0
  exact ⟨rfl, ⟨v, heap_setCell_same _ _ 16 _ _ _ (heap_setCell_same _ _ 15 _ _ _ (heap_setCell_same _ _ 12 _ _ _ HR.out)), ((HO.out.setEnd _ _).setEnd _ _).setEnd _ _⟩, (((Below.refl _ _).setCell (by simp) _).setCell (by simp) _).setCell (by simp) _⟩
set_option maxHeartbeats 1000000 in
theorem up_end (b : Nat) (k : Lk) (now : Int) (ms : List (List Int)) (w : World) (h : EndAt w b k now ms) :
    Calls Try.prog 52 #[.pointer (some ⟨b, 0, none⟩)] w fun e w' => e = .returned (.tuple #[]) ∧ EndAt w' b { k with st := 4, tr := 0, du := 0 } now ms ∧ Below b w w' := by
  obtain ⟨v, hr, ho⟩ := h
  have HR := Lib.hid hr
  have HO := Lib.hid ho
  have c12 : w.cell? ⟨b, 12, none⟩ = some (.int .u8 k.st) := (cell_of_row _ _ _ _ _ _ hr).trans rfl
  have c15 : w.cell? ⟨b, 15, none⟩ = some (.int .i64 k.tr) := (cell_of_row _ _ _ _ _ _ hr).trans rfl
  have c16 : w.cell? ⟨b, 16, none⟩ = some (.int .i64 k.du) := (cell_of_row _ _ _ _ _ _ hr).trans rfl
  have hf : ∀ o, w.frozen? ⟨b, o, none⟩ = false := fun o => frozen_of_row _ _ _ _ _ hr
  clear hr ho
  go_enter Try.func52, Try.ntmps52
  go_wp2
  go_end0
  exact ⟨rfl, ⟨v, heap_setCell_same _ _ 16 _ _ _ (heap_setCell_same _ _ 15 _ _ _ (heap_setCell_same _ _ 12 _ _ _ HR.out)), ((HO.out.setEnd _ _).setEnd _ _).setEnd _ _⟩, (((Below.refl _ _).setCell (by simp) _).setCell (by simp) _).setCell (by simp) _⟩
set_option maxHeartbeats 1000000 in
theorem close_end (b : Nat) (k : Lk) (now : Int) (ms : List (List Int)) (hn : ms.length ≤ 3) (hid0 : 0 ≤ k.id) (hid1 : k.id ≤ 65535) (ho0 : 0 ≤ k.ot) (ho1 : k.ot ≤ 65535) (hn0 : 0 ≤ now) (hn1 : now ≤ 1099511627776) (w : World) (h : EndAt w b k now ms) :
    Calls Try.prog 39 #[.pointer (some ⟨b, 0, none⟩)] w fun e w' => e = .returned (.tuple #[]) ∧ EndAt w' b { k with st := 5, tr := 0, du := now + 40000 } now (ms ++ [msgOf 3 k.id k.ot]) ∧ Below b w w' := by
  have HE := Lib.hid h
  obtain ⟨v, hr, ho⟩ := h
  have c14 : w.cell? ⟨b, 14, none⟩ = some (.int .i64 k.ot) := (cell_of_row _ _ _ _ _ _ hr).trans rfl
  have hbl : b < w.heap.size := row_lt hr
  clear hr ho
  go_enter Try.func39, Try.ntmps39
  go_wp2_with fail
  refine (send_end b k now ms 3 k.ot hn hid0 hid1 ho0 ho1 _ HE.out).mono ?_
  rintro e w1 ⟨rfl, hE1, hB1⟩
  clear c14 hbl HE v
  obtain ⟨v, hr, ho⟩ := hE1
  have HR := Lib.hid hr
  have HO := Lib.hid ho
  have HB := Lib.hid hB1
  have c12 : w1.cell? ⟨b, 12, none⟩ = some (.int .u8 k.st) := (cell_of_row _ _ _ _ _ _ hr).trans rfl
  have c15 : w1.cell? ⟨b, 15, none⟩ = some (.int .i64 k.tr) := (cell_of_row _ _ _ _ _ _ hr).trans rfl
  have c16 : w1.cell? ⟨b, 16, none⟩ = some (.int .i64 k.du) := (cell_of_row _ _ _ _ _ _ hr).trans rfl
  have c17 : w1.cell? ⟨b, 17, none⟩ = some (.int .i64 now) := (cell_of_row _ _ _ _ _ _ hr).trans rfl
  have hf : ∀ o, w1.frozen? ⟨b, o, none⟩ = false := fun o => frozen_of_row _ _ _ _ _ hr
  clear hr ho hB1
  go_wp2
  go_end0
  exact ⟨rfl, ⟨v, heap_setCell_same _ _ 16 _ _ _ (heap_setCell_same _ _ 15 _ _ _ (heap_setCell_same _ _ 12 _ _ _ HR.out)), ((HO.out.setEnd _ _).setEnd _ _).setEnd _ _⟩, ((HB.out.setCell (by simp) _).setCell (by simp) _).setCell (by simp) _⟩
set_option maxHeartbeats 1000000 in
theorem finish_end (b : Nat) (k : Lk) (now : Int) (ms : List (List Int)) (hid0 : 0 ≤ k.id) (hid1 : k.id ≤ 65535) (w : World) (h : EndAt w b k now ms) :
    Calls Try.prog 43 #[.pointer (some ⟨b, 0, none⟩)] w fun e w' => e = .returned (.tuple #[]) ∧ EndAt w' b { k with st := 0, ot := 0, du := 0, id := k.id % 65535 + 1 } now ms ∧ Below b w w' := by
  obtain ⟨v, hr, ho⟩ := h
  have HR := Lib.hid hr
  have HO := Lib.hid ho
  have c12 : w.cell? ⟨b, 12, none⟩ = some (.int .u8 k.st) := (cell_of_row _ _ _ _ _ _ hr).trans rfl
  have c13 : w.cell? ⟨b, 13, none⟩ = some (.int .i64 k.id) := (cell_of_row _ _ _ _ _ _ hr).trans rfl
  have c14 : w.cell? ⟨b, 14, none⟩ = some (.int .i64 k.ot) := (cell_of_row _ _ _ _ _ _ hr).trans rfl
  have c16 : w.cell? ⟨b, 16, none⟩ = some (.int .i64 k.du) := (cell_of_row _ _ _ _ _ _ hr).trans rfl
  have hf : ∀ o, w.frozen? ⟨b, o, none⟩ = false := fun o => frozen_of_row _ _ _ _ _ hr
  clear hr ho
  go_enter Try.func43, Try.ntmps43
  go_wp2
  all_goals go_end0
  exact ⟨rfl, ⟨v, heap_setCell_same _ _ 13 _ _ _ (heap_setCell_same _ _ 16 _ _ _ (heap_setCell_same _ _ 14 _ _ _ (heap_setCell_same _ _ 12 _ _ _ HR.out))), (((HO.out.setEnd _ _).setEnd _ _).setEnd _ _).setEnd _ _⟩, ((((Below.refl _ _).setCell (by simp) _).setCell (by simp) _).setCell (by simp) _).setCell (by simp) _⟩
end Go.Proofs.Ytmighkgjbohieaa
