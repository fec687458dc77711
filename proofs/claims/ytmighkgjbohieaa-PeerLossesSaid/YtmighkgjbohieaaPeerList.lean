/-
  Lists of messages as the laws read them; Same for all lists.
-/
import Derived.Test.YtmighkgjbohieaaPeerSame
set_option linter.unusedVariables false
set_option linter.unusedSimpArgs false
namespace Go.Proofs.Ytmighkgjbohieaa
open Go.ChangeShapes Go.WideShapes Go.ChangeAt Go.RowKit Go.Great

theorem same_any (v1 v2 : Value) (ms1 ms2 : List (List Int)) (w : World) (h1 : ListIn w v1 ms1) (h2 : ListIn w v2 ms2) : Calls Try.prog 22 #[v1, v2] w fun e w' => e = .returned (.bool (decide (ms1 = ms2))) ∧ Below w.heap.size w w' := by
  obtain ⟨ao1, c1, rfl, hc1, hm1, hr1⟩ := h1
  obtain ⟨ao2, c2, rfl, hc2, hm2, hr2⟩ := h2
  by_cases hl : ms1.length = ms2.length
  · by_cases h0 : ms1.length = 0
    · have e1 : ms1 = [] := List.eq_nil_of_length_eq_zero h0
      have e2 : ms2 = [] := List.eq_nil_of_length_eq_zero (by omega)
      subst e1 e2
      exact same_core [] [] 0 0 0 0 0 c1 c2 ao1 ao2 rfl rfl (by omega) (by omega) (by omega) (fun h => absurd rfl h) (fun h => absurd rfl h) w (fun i m1 m2 h => by simp at h)
    · obtain ⟨b1, o1, e1, k1⟩ := hr1 (fun e => h0 (by rw [e]; rfl))
      obtain ⟨b2, o2, e2, k2⟩ := hr2 (fun e => h0 (by rw [hl, e]; rfl))
      have := same_core ms1 ms2 ms1.length b1 o1 b2 o2 c1 c2 ao1 ao2 rfl hl.symm (by unfold maxLen at hm1; omega) hc1 (by omega) (fun _ => e1) (fun _ => e2) w ?_
      · rw [← hl]; exact this
      · intro i m1 m2 g1 g2
        obtain ⟨l1, x1, y1, a1, d1, rfl, t1, _, z1⟩ := k1 i m1 g1
        obtain ⟨l2, x2, y2, a2, d2, rfl, t2, _, z2⟩ := k2 i m2 g2
        exact ⟨a1, a2, d1, d2, y1, y2, t1, t2, l1, l2, z1, z2⟩
  · have hd : decide (ms1 = ms2) = false := by
      rw [decide_eq_false_iff_not]
      intro e
      exact hl (by rw [e])
    rw [hd]
    exact same_len ms1 ms2 ao1 ao2 c1 c2 (by simp; omega) w

/-- A message of five bytes. -/
def MsgOk (m : List Int) : Prop := m.length = 5 ∧ ∀ x ∈ m, 0 ≤ x ∧ x ≤ 255
theorem msgOf_ok (k a b : Int) (hk : 0 ≤ k ∧ k ≤ 255) : MsgOk (msgOf k a b) := by
  refine ⟨rfl, fun x hx => ?_⟩
  simp only [msgOf, List.mem_cons, List.not_mem_nil, or_false] at hx
  rcases hx with rfl | rfl | rfl | rfl | rfl <;> omega
theorem MsgAt.read {w : World} {base : Nat} {x : Value} {m : List Int} (h : MsgAt w base x m) (hm : ∀ x ∈ m, 0 ≤ x ∧ x ≤ 255) : MsgIn w x m := by
  obtain ⟨b, rfl, _, hh⟩ := h
  refine ⟨_, _, rfl, Nat.le_refl _, hm, fun _ => ⟨b, 0, rfl, fun i y hi => ?_⟩⟩
  rw [Nat.zero_add, cell_of_row _ _ _ _ _ _ hh]
  simp [msgCells, hi]
theorem OutAt.read {w : World} {base : Nat} {v : Value} {ms : List (List Int)} (h : OutAt w base v ms) (hm : ∀ m ∈ ms, MsgOk m) (hl : ms.length ≤ maxLen) : ListIn w v ms := by
  obtain ⟨xs, ho, hx⟩ := h
  rcases ho.2 with ⟨rfl, h0⟩ | ⟨g, cap, cur, rfl, _, hg, hn, _, hs, htake⟩
  · have : ms = [] := List.eq_nil_of_length_eq_zero h0
    subst this
    exact ⟨none, 0, rfl, Nat.le_refl _, by unfold maxLen; decide, fun h => absurd rfl h⟩
  · refine ⟨_, cap, rfl, hn, hl, fun _ => ⟨g, 0, rfl, fun i m hi => ?_⟩⟩
    obtain ⟨x, hxi, hma⟩ := hx i m hi
    have hok := hm m (List.mem_of_getElem? hi)
    refine ⟨by rw [hok.1]; unfold maxLen; decide, x, ?_, hma.read hok.2⟩
    rw [Nat.zero_add, cell_of_row _ _ _ _ _ _ hg]
    rw [← htake, List.getElem?_take] at hxi
    split at hxi
    · simpa using hxi
    · cases hxi
/-- A list literal of one message, of two. -/
theorem list_one {w : World} {b : Nat} {x : Value} {m : List Int} (h : w.heap[b]? = some (.cells #[x] 45)) (hx : MsgIn w x m) (hm : m.length ≤ maxLen) : ListIn w (.slice (some ⟨b, 0, none⟩) 1 1) [m] := by
  refine ⟨_, 1, rfl, Nat.le_refl _, by unfold maxLen; simp, fun _ => ⟨b, 0, rfl, fun i m' hi => ?_⟩⟩
  match i, hi with
  | 0, hi =>
    cases hi
    exact ⟨hm, x, cell_of_row _ _ _ _ _ _ h, hx⟩
  | i + 1, hi => simp at hi
theorem list_two {w : World} {b : Nat} {x y : Value} {m l : List Int} (h : w.heap[b]? = some (.cells #[x, y] 45)) (hx : MsgIn w x m) (hy : MsgIn w y l) (hm : m.length ≤ maxLen) (hl : l.length ≤ maxLen) : ListIn w (.slice (some ⟨b, 0, none⟩) 2 2) [m, l] := by
  refine ⟨_, 2, rfl, Nat.le_refl _, by unfold maxLen; simp, fun _ => ⟨b, 0, rfl, fun i m' hi => ?_⟩⟩
  match i, hi with
  | 0, hi =>
    cases hi
    exact ⟨hm, x, cell_of_row _ _ _ _ _ _ h, hx⟩
  | 1, hi =>
    cases hi
    exact ⟨hl, y, cell_of_row _ _ _ _ _ _ h, hy⟩
  | i + 2, hi => simp at hi
end Go.Proofs.Ytmighkgjbohieaa
