/-
  The state of PeerRuns in memory: two equal pairs of ends, the messages sent.
-/
import Derived.Test.YtmighkgjbohieaaPeerRunS
import Derived.Test.YtmighkgjbohieaaPeerOpen
import Derived.Test.YtmighkgjbohieaaPeerRefP
import Derived.Test.YtmighkgjbohieaaPeerEqF
set_option linter.unusedVariables false
set_option linter.unusedSimpArgs false
namespace Go.Proofs.Ytmighkgjbohieaa
open Go.ChangeShapes Go.WideShapes Go.ChangeAt Go.RowKit Go.Great

theorem allAt_nil (w : World) (base : Nat) : AllAt w base (.slice none 0 0) 0 := ⟨[], World.ownsRow_nil w base _ 34, fun i hi => by omega⟩
structure Su (w0 w : World) (x y : Lk) (s0 s1 : List (List Int)) (v0 v1 : Value) : Prop extends St w0 w (.slice none 0 0) 0 x y s0 s1 v0 v1 where
  rq : w.heap[w0.heap.size + 1]? = some (.cells (pairCells x y) 28)
section
variable {w0 w w' : World} {x y : Lk} {s0 s1 : List (List Int)} {v0 v1 : Value}
theorem Su.next (h : Su w0 w x y s0 s1 v0 v1) (hb : Below w.heap.size w w') : Su w0 w' x y s0 s1 v0 v1 := ⟨h.toSt.step hb, row_below hb h.rq⟩
theorem OutAt.far {w : World} {base b o : Nat} {v : Value} {ms : List (List Int)} {cs : List Value} (h : OutAt w base v ms) (hb : b < base) : OutAt (w.setCells b o cs) base v ms := h.kept (fun c hc _ => heap_setCells_far _ _ _ _ _ (by omega))
theorem OutAt.far2 {w : World} {B A o : Nat} {v : Value} {ms : List (List Int)} {cs : List Value} (h : OutAt w B v ms) (hA : A + 3 ≤ B) : OutAt ((w.drew.setCells A o cs).setCells (A + 1) o cs) (A + 3) v ms :=
  (((h.below (Below.refl _ _).drew).mono hA).far (Nat.lt_add_of_pos_right (by decide))).far (Nat.add_lt_add_left (by decide) A)
theorem Su.links0 (h : Su w0 w x y s0 s1 v0 v1) (k : Lk) : Su w0 ((w.setCells w0.heap.size 0 k.cells.toList).setCells (w0.heap.size + 1) 0 k.cells.toList) k y s0 s1 v0 v1 := by
  have a := h.toSt.link0 k
  have b : (w.setCells w0.heap.size 0 k.cells.toList).heap[w0.heap.size + 1]? = some (.cells (pairCells x y) 28) := (heap_setCells_far _ _ _ _ _ (by omega)).trans h.rq
  exact ⟨⟨below_setCells' (Nat.le_succ _) _ _ _ _ a.below, (heap_setCells_far _ _ _ _ _ (by omega)).trans a.rp, (heap_setCells_far _ _ _ _ _ (by omega)).trans a.ro, allAt_nil _ _, a.l0.far (by omega), a.l1.far (by omega), a.ap⟩, (heap_setCells_same _ _ _ _ _ _ b).trans (by rw [put_pair0])⟩
theorem Su.links1 (h : Su w0 w x y s0 s1 v0 v1) (k : Lk) : Su w0 ((w.setCells w0.heap.size 17 k.cells.toList).setCells (w0.heap.size + 1) 17 k.cells.toList) x k s0 s1 v0 v1 := by
  have a := h.toSt.link1 k
  have b : (w.setCells w0.heap.size 17 k.cells.toList).heap[w0.heap.size + 1]? = some (.cells (pairCells x y) 28) := (heap_setCells_far _ _ _ _ _ (by omega)).trans h.rq
  exact ⟨⟨below_setCells' (Nat.le_succ _) _ _ _ _ a.below, (heap_setCells_far _ _ _ _ _ (by omega)).trans a.rp, (heap_setCells_far _ _ _ _ _ (by omega)).trans a.ro, allAt_nil _ _, a.l0.far (by omega), a.l1.far (by omega), a.ap⟩, (heap_setCells_same _ _ _ _ _ _ b).trans (by rw [put_pair1])⟩
theorem Su.sent0 (h : Su w0 w x y s0 s1 v0 v1) {w5 : World} {v5 : Value} {ms2 : List (List Int)} {xs news : List Value} (hx : xs.length = s0.length) (hxm : ∀ (i : Nat) (m : List Int), s0[i]? = some m → ∃ x, xs[i]? = some x ∧ MsgAt w (w0.heap.size + 3) x m)
    (hn : ∀ (i : Nat) (m : List Int), ms2[i]? = some m → ∃ x, news[i]? = some x ∧ MsgAt w (w0.heap.size + 3) x m) (ho : w5.ownsRow (w0.heap.size + 3) 45 1 v5 (s0.length + ms2.length) (xs ++ news)) (hg : w.grownBy w5 v0.ownBlock) (ha : v5.ownBlock = v0.ownBlock ∨ v5.ownBlock = some w.heap.size) :
    Su w0 (w5.setCell ⟨w0.heap.size + 1 + 1, 0, none⟩ v5) x y (s0 ++ ms2) s1 v5 v1 := by
  refine ⟨h.toSt.sent0 hx hxm hn ho hg ha, row_set (by simp only []; omega) ((hg.block _ (row_lt h.rq) (fun e => ?_)).trans h.rq)⟩
  have := (h.l0.block _ e.symm).2.1
  omega
theorem Su.sent1 (h : Su w0 w x y s0 s1 v0 v1) {w5 : World} {v5 : Value} {ms2 : List (List Int)} {xs news : List Value} (hx : xs.length = s1.length) (hxm : ∀ (i : Nat) (m : List Int), s1[i]? = some m → ∃ x, xs[i]? = some x ∧ MsgAt w (w0.heap.size + 3) x m)
    (hn : ∀ (i : Nat) (m : List Int), ms2[i]? = some m → ∃ x, news[i]? = some x ∧ MsgAt w (w0.heap.size + 3) x m) (ho : w5.ownsRow (w0.heap.size + 3) 45 1 v5 (s1.length + ms2.length) (xs ++ news)) (hg : w.grownBy w5 v1.ownBlock) (ha : v5.ownBlock = v1.ownBlock ∨ v5.ownBlock = some w.heap.size) :
    Su w0 (w5.setCell ⟨w0.heap.size + 1 + 1, 1, none⟩ v5) x y s0 (s1 ++ ms2) v0 v5 := by
  refine ⟨h.toSt.sent1 hx hxm hn ho hg ha, row_set (by simp only []; omega) ((hg.block _ (row_lt h.rq) (fun e => ?_)).trans h.rq)⟩
  have := (h.l1.block _ e.symm).2.1
  omega
end
theorem su_start (w : World) (x y : Lk) : Su w (((w.alloc (.cells (pairCells x y) 28)).alloc (.cells (pairCells x y) 28)).alloc (.cells #[.slice none 0 0, .slice none 0 0] 40)) x y [] [] (.slice none 0 0) (.slice none 0 0) := by
  obtain ⟨r0, r1, r2⟩ := fr_rows3 w (.cells (pairCells x y) 28) (.cells (pairCells x y) 28) (.cells #[.slice none 0 0, .slice none 0 0] 40)
  exact ⟨⟨below_more (below_more (below_more (Below.refl _ _) _) _) _, r0, r2, allAt_nil _ _, outAt_nil _ _, outAt_nil _ _, fun g e => by cases e⟩, r1⟩
theorem no3 {a : Nat} (h : a + 3 ≤ a + 1 + 1) : False := by omega
theorem app_le {a k n m : Nat} (h1 : a ≤ 2 * k) (h2 : k < n) (h3 : n ≤ 100) (h4 : m ≤ 2) : a + m ≤ 1000000 := by omega
theorem app_len {s ms : List (List Int)} {k : Nat} (h1 : s.length ≤ 2 * k) (h4 : ms.length ≤ 2) : (s ++ ms).length ≤ 2 * (k + 1) := by rw [List.length_append]; omega
theorem le_more {a k : Nat} (h1 : a ≤ 2 * k) : a ≤ 2 * (k + 1) := by omega
theorem time_more {N wt : Int} {k : Nat} (h : 0 ≤ N) (h1 : N ≤ 1000000 * k) (h2 : 0 ≤ wt) (h3 : wt ≤ 1000000) : 0 ≤ N + wt ∧ N + wt ≤ 1000000 * ((k + 1 : Nat) : Int) := by omega
theorem meas {k n : Nat} (h : k < n) : n - (k + 1) < n - k := by omega
def Msgs (s : List (List Int)) : Prop := ∀ m ∈ s, MsgOk m
theorem Msgs.app {a b : List (List Int)} (ha : Msgs a) (hb : Msgs b) : Msgs (a ++ b) := fun m hm => (List.mem_append.1 hm).elim (ha m) (hb m)
/-- What PeerRuns knows at each round's head. -/
def RunsAt (w0 w : World) (k : Nat) (now : Int) : Prop :=
  ∃ x y s0 s1 v0 v1, x.Wf ∧ y.Wf ∧ Msgs s0 ∧ Msgs s1 ∧ s0.length ≤ 2 * k ∧ s1.length ≤ 2 * k ∧ (0 ≤ now ∧ now ≤ 1000000 * k) ∧ Su w0 w x y s0 s1 v0 v1
theorem mod_nat2 {a : Int} {n : Nat} (ha : 0 ≤ a) (hn : 0 < n) : ∃ q : Nat, a % (n : Int) = q ∧ q < n := by
  have h1 := Int.emod_nonneg a (show (n : Int) ≠ 0 by omega)
  have h2 := Int.emod_lt_of_pos a (show (0 : Int) < n by omega)
  exact ⟨(a % (n : Int)).toNat, (Int.toNat_of_nonneg h1).symm, by omega⟩
theorem wf_k0 {id : Int} (h : -9223372036854775808 ≤ id ∧ id ≤ 9223372036854775807) : (k0 id).Wf := by
  unfold k0
  split
  · exact ⟨⟨b2, b0, b0, b0, b0, b3, b2, b0, b0, b0, b0, b4⟩, by show 0 ≤ (0 : Int) ∧ (0 : Int) ≤ 255; decide, h, by show _ ≤ (0 : Int) ∧ (0 : Int) ≤ _; decide, by show _ ≤ (0 : Int) ∧ (0 : Int) ≤ _; decide, by show _ ≤ (0 : Int) ∧ (0 : Int) ≤ _; decide⟩
  · exact wf_zero
theorem wf_k1 {id : Int} (h : -9223372036854775808 ≤ id ∧ id ≤ 9223372036854775807) : (k1 id).Wf := by
  unfold k1
  split
  · exact ⟨⟨b2, b0, b0, b0, b0, b4, b2, b0, b0, b0, b0, b3⟩, by show 0 ≤ (0 : Int) ∧ (0 : Int) ≤ 255; decide, h, by show _ ≤ (0 : Int) ∧ (0 : Int) ≤ _; decide, by show _ ≤ (0 : Int) ∧ (0 : Int) ≤ _; decide, by show _ ≤ (0 : Int) ∧ (0 : Int) ≤ _; decide⟩
  · exact wf_zero
end Go.Proofs.Ytmighkgjbohieaa
