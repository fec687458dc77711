/-
  What the law's run keeps: the list of all pairs, the lists of messages sent; plain.
-/
import Derived.Test.YtmighkgjbohieaaPeerGreat
set_option linter.unusedVariables false
set_option linter.unusedSimpArgs false
namespace Go.Proofs.Ytmighkgjbohieaa
open Go.ChangeShapes Go.WideShapes Go.ChangeAt Go.RowKit Go.Great

def GoodP (x y : Lk) : Prop := x.By ∧ y.By ∧ x.chk = 0 ∧ y.chk = 0 ∧ (x.st = 4 → y.st = 4 → pairedB x y = true)
theorem Sys.good {i0 j0 : Int} {x y : Lk} {g h : Nat} {ka kb : Nat → Option Nat} {s0 s1 : List (List Int)} (H : Sys i0 j0 x y g h ka kb s0 s1) : GoodP x y :=
  ⟨H.A.byt, H.B.byt, H.A.chk, H.B.chk, fun hx hy => by
    obtain ⟨h1, h2⟩ := H.paired hx hy
    simp [pairedB, hx, hy, h1, h2]⟩
/-- v is a list of n pairs, all good, in a row of the call's own. -/
def AllAt (w : World) (base : Nat) (v : Value) (n : Nat) : Prop :=
  ∃ xs, w.ownsRow base 28 34 v n xs ∧ ∀ i, i < n → ∃ x y, GoodP x y ∧ ∀ j, j < 34 → xs[i * 34 + j]? = (pairCells x y)[j]?
theorem allAt_more {w w' : World} {base : Nat} {v v' : Value} {n : Nat} {xs : List Value} {x y : Lk} (ho : w.ownsRow base 28 34 v n xs) (hx : ∀ i, i < n → ∃ x y, GoodP x y ∧ ∀ j, j < 34 → xs[i * 34 + j]? = (pairCells x y)[j]?)
    (ho' : w'.ownsRow base 28 34 v' (n + 1) (xs ++ (pairCells x y).toList)) (hg : GoodP x y) : AllAt w' base v' (n + 1) := by
  refine ⟨_, ho', fun i hi => ?_⟩
  have hl : xs.length = n * 34 := ho.1
  by_cases h : i < n
  · obtain ⟨a, b, hg', he⟩ := hx i h
    refine ⟨a, b, hg', fun j hj => ?_⟩
    rw [List.getElem?_append_left (by omega)]
    exact he j hj
  · obtain rfl : i = n := by omega
    refine ⟨x, y, hg, fun j hj => ?_⟩
    rw [List.getElem?_append_right (by omega), show i * 34 + j - xs.length = j by omega]
    simp
noncomputable def i28 : TypeInfo := (Try.prog.info? 28).getD default
theorem i28_is : Try.prog.info? 28 = some i28 := by kernel_rfl
theorem i28_zero : i28.zero = some (.agg zp) := by kernel_rfl
theorem i28_size : i28.size = 34 := by kernel_rfl
theorem i28_bytes : i28.bytes = 96 := by kernel_rfl
theorem AllAt.range {w : World} {base : Nat} {v : Value} {n : Nat} (h : AllAt w base v n) (hn : 0 < n) : ∃ b cap, v = .slice (some ⟨b, 0, none⟩) n cap ∧ base ≤ b ∧ ∀ i, i < n → ∃ x y, GoodP x y ∧ w.rangeAt b (i * 34) (pairCells x y).toList := by
  obtain ⟨xs, ho, hx⟩ := h
  rcases ho.2 with ⟨rfl, h0⟩ | ⟨g, cap, cur, rfl, hb, hg, hc, _, hs, htake⟩
  · omega
  · refine ⟨g, cap, rfl, hb, fun i hi => ?_⟩
    obtain ⟨x, y, hgd, he⟩ := hx i hi
    refine ⟨x, y, hgd, fun j u hu => ?_⟩
    have hj : j < 34 := by
      have := (List.getElem?_eq_some_iff.1 hu).1
      rw [Array.length_toList, pair_size] at this
      exact this
    have h1 := he j hj
    rw [← htake, List.getElem?_take] at h1
    rw [cell_of_row _ _ _ _ _ _ hg]
    rw [Array.getElem?_toList] at hu
    rw [hu] at h1
    split at h1
    · simpa using h1
    · cases h1
/-- A list of messages in a row of the call's own is as it was behind an append onto another row. -/
theorem OutAt.grown {w w' : World} {base : Nat} {v : Value} {ms : List (List Int)} {r : Option Nat} (h : OutAt w base v ms) (hg : w.grownBy w' r) (hr : ∀ g, r = some g → ∃ cur t, w.heap[g]? = some (.cells cur t) ∧ t ≠ 5) (hne : ∀ g, v.ownBlock = some g → r ≠ some g) : OutAt w' base v ms := by
  obtain ⟨xs, ho, hx⟩ := h
  refine ⟨xs, ⟨ho.1, ?_⟩, fun i m hi => ?_⟩
  · rcases ho.2 with h0 | ⟨g, cap, cur, rfl, h2, h3, h4⟩
    · exact .inl h0
    · exact .inr ⟨g, cap, cur, rfl, h2, (hg.block g (row_lt h3) (fun e => hne g rfl e.symm)).trans h3, h4⟩
  · obtain ⟨x, hxi, b, rfl, hb, hh⟩ := hx i m hi
    refine ⟨_, hxi, b, rfl, hb, (hg.block b (row_lt hh) (fun e => ?_)).trans hh⟩
    obtain ⟨cur, t, h1, h2⟩ := hr b e.symm
    rw [hh] at h1
    simp only [Option.some.injEq, Obj.cells.injEq] at h1
    exact h2 h1.2.1.symm
theorem OutAt.block {w : World} {base : Nat} {v : Value} {ms : List (List Int)} (h : OutAt w base v ms) : ∀ g, v.ownBlock = some g → (∃ cur, w.heap[g]? = some (.cells cur 45)) ∧ base ≤ g ∧ g < w.heap.size := by
  intro g e
  obtain ⟨xs, ho, _⟩ := h
  rcases ho.2 with ⟨rfl, _⟩ | ⟨g', cap, cur, rfl, h2, h3, _⟩
  · cases e
  · cases e
    exact ⟨⟨cur, h3⟩, h2, row_lt h3⟩
theorem AllAt.block {w : World} {base : Nat} {v : Value} {n : Nat} (h : AllAt w base v n) : ∀ g, v.ownBlock = some g → (∃ cur, w.heap[g]? = some (.cells cur 28)) ∧ base ≤ g ∧ g < w.heap.size := by
  intro g e
  obtain ⟨xs, ho, _⟩ := h
  rcases ho.2 with ⟨rfl, _⟩ | ⟨g', cap, cur, rfl, h2, h3, _⟩
  · cases e
  · cases e
    exact ⟨⟨cur, h3⟩, h2, row_lt h3⟩
theorem AllAt.grown {w w' : World} {base : Nat} {v : Value} {n : Nat} {r : Option Nat} (h : AllAt w base v n) (hg : w.grownBy w' r) (hne : ∀ g, v.ownBlock = some g → r ≠ some g) : AllAt w' base v n := by
  obtain ⟨xs, ho, hx⟩ := h
  refine ⟨xs, ⟨ho.1, ?_⟩, hx⟩
  rcases ho.2 with h0 | ⟨g, cap, cur, rfl, h2, h3, h4⟩
  · exact .inl h0
  · exact .inr ⟨g, cap, cur, rfl, h2, (hg.block g (row_lt h3) (fun e => hne g rfl e.symm)).trans h3, h4⟩
/-- Both behind a step that keeps all blocks but 'p', which is no block of theirs. -/
theorem OutAt.kept {w w' : World} {base : Nat} {v : Value} {ms : List (List Int)} (h : OutAt w base v ms) (hk : ∀ b, base ≤ b → b < w.heap.size → w'.heap[b]? = w.heap[b]?) : OutAt w' base v ms := by
  obtain ⟨xs, ho, hx⟩ := h
  refine ⟨xs, ⟨ho.1, ?_⟩, fun i m hi => ?_⟩
  · rcases ho.2 with h0 | ⟨g, cap, cur, rfl, h2, h3, h4⟩
    · exact .inl h0
    · exact .inr ⟨g, cap, cur, rfl, h2, (hk g h2 (row_lt h3)).trans h3, h4⟩
  · obtain ⟨x, hxi, b, rfl, hb, hh⟩ := hx i m hi
    exact ⟨_, hxi, b, rfl, hb, (hk b hb (row_lt hh)).trans hh⟩
theorem AllAt.kept {w w' : World} {base : Nat} {v : Value} {n : Nat} (h : AllAt w base v n) (hk : ∀ b, base ≤ b → b < w.heap.size → w'.heap[b]? = w.heap[b]?) : AllAt w' base v n := by
  obtain ⟨xs, ho, hx⟩ := h
  refine ⟨xs, ⟨ho.1, ?_⟩, hx⟩
  rcases ho.2 with h0 | ⟨g, cap, cur, rfl, h2, h3, h4⟩
  · exact .inl h0
  · exact .inr ⟨g, cap, cur, rfl, h2, (hk g h2 (row_lt h3)).trans h3, h4⟩
theorem outAt_more {w w' : World} {base : Nat} {v' : Value} {ms ms2 : List (List Int)} {xs news : List Value} (hl : xs.length = ms.length) (hx : ∀ (i : Nat) (m : List Int), ms[i]? = some m → ∃ x, xs[i]? = some x ∧ MsgAt w' base x m)
    (hn : ∀ (i : Nat) (m : List Int), ms2[i]? = some m → ∃ x, news[i]? = some x ∧ MsgAt w' base x m) (ho : w'.ownsRow base 45 1 v' (ms.length + ms2.length) (xs ++ news)) : OutAt w' base v' (ms ++ ms2) := by
  refine ⟨xs ++ news, by rw [List.length_append]; exact ho, fun i m hi => ?_⟩
  by_cases h : i < ms.length
  · rw [List.getElem?_append_left h] at hi
    rw [List.getElem?_append_left (by omega)]
    exact hx i m hi
  · rw [List.getElem?_append_right (by omega)] at hi
    rw [List.getElem?_append_right (by omega), hl]
    exact hn _ m hi
theorem MsgFrom.fine {i0 j0 : Int} {g : Nat} {ka : Nat → Option Nat} {m : List Int} (h : MsgFrom i0 j0 g ka m) : MsgOk m := by
  obtain ⟨a, _, rfl | ⟨q, _, rfl⟩ | ⟨c, rfl⟩⟩ := h
  · exact msgOf_ok _ _ _ (by decide)
  · exact msgOf_ok _ _ _ (by decide)
  · exact msgOf_ok _ _ _ (by decide)
/-- The start. -/
theorem sys_zero {id other : Int} (hi : 1 ≤ id ∧ id ≤ 65535) (ho : 1 ≤ other ∧ other ≤ 65535) : Sys id other (LA 0 id 0 0 0) (LB 0 other 0 0 0) 0 0 (fun _ => none) (fun _ => none) [] [] := by
  refine ⟨⟨rfl, shape0 rfl rfl rfl rfl, LA_by, (idOf_zero hi.1 hi.2).symm, fun a q e => (by cases e), fun _ => rfl, fun q e => (by cases e), fun e => ?_⟩, ⟨rfl, shape0 rfl rfl rfl rfl, LB_by, (idOf_zero ho.1 ho.2).symm, fun a q e => (by cases e), fun _ => rfl, fun q e => (by cases e), fun e => ?_⟩, fun m hm => (by cases hm), fun m hm => (by cases hm), fun a a' q q' _ _ e => (by cases e)⟩
  · have e' : (0 : Int) = 3 ∨ (0 : Int) = 4 := e
    omega
  · have e' : (0 : Int) = 3 ∨ (0 : Int) = 4 := e
    omega
end Go.Proofs.Ytmighkgjbohieaa
