/-
  The contract of the reference's Table: twelve rows, in memory of its own.
-/
import Derived.Test.YtpcndmpdiaceeaaRateC
import Derived.Deep.RegionHeldLaw
import Derived.Deep.AppendLies
import Derived.WalkSpells
namespace Go.Proofs.Ytpcndmpdiaceeaa
open Go.ChangeShapes Go.WideShapes Go.ChangeAt Go.RowKit

/-- The first k rows of the table. -/
def rTab : Nat → List Value
  | 0 => []
  | k + 1 => rTab k ++ [.int .i64 (rBits k), .int .i64 (rNeed k), .bool (rBasic k)]
theorem info_rate : (Try.prog.info? 23).map (fun i => (i.zero, i.size, i.bytes)) = some (some (.agg #[.int .i64 0, .int .i64 0, .bool false]), 3, 24) := by kernel_rfl
def bitsCells : Array Value := #[.int .i64 24, .int .i64 36, .int .i64 48, .int .i64 72, .int .i64 100, .int .i64 148, .int .i64 196, .int .i64 220, .int .i64 264, .int .i64 316, .int .i64 396, .int .i64 476]
def needCells : Array Value := #[.int .i64 (-820), .int .i64 (-808), .int .i64 (-788), .int .i64 (-768), .int .i64 (-738), .int .i64 (-702), .int .i64 (-664), .int .i64 (-652), .int .i64 (-640), .int .i64 (-590), .int .i64 (-568), .int .i64 (-538)]

/-- Which of the tests of row k say yes. -/
def RowCase (k : Int) : Prop := ((k == 0) = true ∧ rBasic k = true) ∨ ((k == 0) = false ∧ (k == 2) = true ∧ rBasic k = true) ∨ ((k == 0) = false ∧ (k == 2) = false ∧ (k == 4) = true ∧ rBasic k = true) ∨ ((k == 0) = false ∧ (k == 2) = false ∧ (k == 4) = false ∧ rBasic k = false)
theorem rowCase (k : Int) (h0 : 0 ≤ k) (h1 : k < 12) : RowCase k :=
  cases12 (P := RowCase) ⟨by unfold RowCase; decide, by unfold RowCase; decide, by unfold RowCase; decide, by unfold RowCase; decide, by unfold RowCase; decide, by unfold RowCase; decide, by unfold RowCase; decide, by unfold RowCase; decide, by unfold RowCase; decide, by unfold RowCase; decide, by unfold RowCase; decide, by unfold RowCase; decide⟩ k h0 h1
theorem bits_at (k : Nat) (h : k < 12) : bitsCells[k]? = some (.int .i64 (rBits k)) := by
  have := cases12 (P := fun i => bitsCells[i.toNat]? = some (.int .i64 (rBits i))) ⟨rfl, rfl, rfl, rfl, rfl, rfl, rfl, rfl, rfl, rfl, rfl, rfl⟩ (k : Int) (by omega) (by omega)
  simpa using this
theorem need_at (k : Nat) (h : k < 12) : needCells[k]? = some (.int .i64 (rNeed k)) := by
  have := cases12 (P := fun i => needCells[i.toNat]? = some (.int .i64 (rNeed i))) ⟨rfl, rfl, rfl, rfl, rfl, rfl, rfl, rfl, rfl, rfl, rfl, rfl⟩ (k : Int) (by omega) (by omega)
  simpa using this

theorem ownsRow_base {w : World} {base b2 : Nat} {e : TypeId} {size : Nat} {v : Value} {n : Nat} {xs : List Value} (h : w.ownsRow base e size v n xs) (hb : b2 ≤ base) : w.ownsRow b2 e size v n xs := by
  obtain ⟨h1, h2⟩ := h
  refine ⟨h1, ?_⟩
  rcases h2 with h2 | ⟨g, cap, cur, hv, hg, r⟩
  · exact .inl h2
  · exact .inr ⟨g, cap, cur, hv, by omega, r⟩

set_option maxHeartbeats 1000000 in
theorem reftable_any (w : World) : Calls Try.prog 17 #[] w fun e w' => ∃ v, e = .returned v ∧ w'.ownsRow w.heap.size 23 3 v 12 (rTab 12) ∧ Below w.heap.size w w' := by
  obtain ⟨i0, hi, hz0, hz1, hz2⟩ := info_parts info_rate
  go_enter Try.func17, Try.ntmps17
  go_wp2_with fail
  go_loopw [3, 4] (fun v i wr => ∃ k : Nat, k ≤ 12 ∧ i = .int .i64 k ∧ wr.ownsRow (w.heap.size + 2) 23 3 v k (rTab k) ∧ Below (w.heap.size + 2) ((w.alloc (.cells bitsCells 3)).alloc (.cells needCells 3)) wr) (fun _ i _ => 12 - (intOf i).toNat)
  case atStart => exact ⟨0, by omega, rfl, World.ownsRow_nil _ _ _ _, Below.refl _ _⟩
  case round =>
    obtain ⟨k, hk, rfl, hown, hB⟩ := hrel
    have hzr : w.heap.size + 2 ≤ wr.heap.size := by have := hB.size; simpa using this
    by_cases hlt : k < 12
    · have c1 : wr.cell? ⟨w.heap.size, k, none⟩ = some (.int .i64 (rBits k)) := by
        rw [hB.cell (p := ⟨w.heap.size, k, none⟩) (by simp)]
        simpa using bits_at k hlt
      have c2 : wr.cell? ⟨w.heap.size + 1, k, none⟩ = some (.int .i64 (rNeed k)) := by
        rw [hB.cell (p := ⟨w.heap.size + 1, k, none⟩) (by simp)]
        simpa using need_at k hlt
      have hkl : (k : Int) < 12 := by omega
      have ag1 : u3.ownBlock ≠ some w.heap.size := fun e => by have := (hown.lt _ e).1; omega
      have ag2 : u3.ownBlock ≠ some (w.heap.size + 1) := fun e => by have := (hown.lt _ e).1; omega
      go_wp2_with fail
      by_cases e0 : k = 0
      · subst e0
        first
          | (go_region_held_law (fun w' => w'.cell? ⟨w.heap.size, 0, none⟩ = some (.int .i64 (rBits 0)) ∧ w'.cell? ⟨w.heap.size + 1, 0, none⟩ = some (.int .i64 (rNeed 0)))
              (first
                | go_keep
                | (go_split_ands
                   refine ⟨?_, ?_⟩
                   · (rw [hgrow.cell_far _ (by simp; omega) (Ne.symm ag1)]; assumption)
                   · (rw [hgrow.cell_far _ (by simp; omega) (Ne.symm ag2)]; assumption)))
              ((refine step_append_lies _ (by rfl) _ _ _ (by rfl) (w.heap.size + 2) 23 i0 _ 3 24 Try.underlying36 hi hz0 hz1 hz2 rfl (by omega) u3 0 (rTab 0) (by rfl) ((hown.alloc _).drew) ⟨wr.heap.size, 0, none⟩ 1 1 [.int .i64 (rBits 0), .int .i64 (rNeed 0), .bool true] (by rfl) (by rfl) (World.news_of_block (cs := #[.int .i64 (rBits 0), .int .i64 (rNeed 0), .bool true]) (t := 23) (fr := (0, 0)) (heap_alloc_new wr _)) (by simp [Value.oneCell']) (by omega) (by simp only [maxLen]; omega) (by omega) (by simp; omega) (wr.heap.size + 1) (by simp) ?_; intro gg cap w1 hown1 hgrow hat hlt1)))
          | fail
        have hB1 : Below (w.heap.size + 2) ((w.alloc (.cells bitsCells 3)).alloc (.cells needCells 3)) w1 := ((hB.alloc hzr _).drew).grown hgrow (by simp; omega) (fun j e => (hown.lt j e).1)
        have hown2 : w1.ownsRow (w.heap.size + 2) 23 3 (.slice (some ⟨gg, 0, none⟩) (0 + 1) cap) (0 + 1) (rTab (0 + 1)) := hown1
        clear hown1 hgrow hat
        go_wp2
        go_roundw
        case rel => exact ⟨0 + 1, by omega, by go_num, hown2, hB1⟩
        case measure => simp [intOf]
      · by_cases e2 : k = 2
        · subst e2
          first
            | (go_region_held_law (fun w' => w'.cell? ⟨w.heap.size, 2, none⟩ = some (.int .i64 (rBits 2)) ∧ w'.cell? ⟨w.heap.size + 1, 2, none⟩ = some (.int .i64 (rNeed 2)))
                (first
                  | go_keep
                  | (go_split_ands
                     refine ⟨?_, ?_⟩
                     · (rw [hgrow.cell_far _ (by simp; omega) (Ne.symm ag1)]; assumption)
                     · (rw [hgrow.cell_far _ (by simp; omega) (Ne.symm ag2)]; assumption)))
                ((refine step_append_lies _ (by rfl) _ _ _ (by rfl) (w.heap.size + 2) 23 i0 _ 3 24 Try.underlying36 hi hz0 hz1 hz2 rfl (by omega) u3 2 (rTab 2) (by rfl) ((hown.alloc _).drew) ⟨wr.heap.size, 0, none⟩ 1 1 [.int .i64 (rBits 2), .int .i64 (rNeed 2), .bool true] (by rfl) (by rfl) (World.news_of_block (cs := #[.int .i64 (rBits 2), .int .i64 (rNeed 2), .bool true]) (t := 23) (fr := (0, 0)) (heap_alloc_new wr _)) (by simp [Value.oneCell']) (by omega) (by simp only [maxLen]; omega) (by omega) (by simp; omega) (wr.heap.size + 1) (by simp) ?_; intro gg cap w1 hown1 hgrow hat hlt1)))
            | fail
          have hB1 : Below (w.heap.size + 2) ((w.alloc (.cells bitsCells 3)).alloc (.cells needCells 3)) w1 := ((hB.alloc hzr _).drew).grown hgrow (by simp; omega) (fun j e => (hown.lt j e).1)
          have hown2 : w1.ownsRow (w.heap.size + 2) 23 3 (.slice (some ⟨gg, 0, none⟩) (2 + 1) cap) (2 + 1) (rTab (2 + 1)) := hown1
          clear hown1 hgrow hat
          go_wp2
          go_roundw
          case rel => exact ⟨2 + 1, by omega, by go_num, hown2, hB1⟩
          case measure => simp [intOf]
        · by_cases e4 : k = 4
          · subst e4
            first
              | (go_region_held_law (fun w' => w'.cell? ⟨w.heap.size, 4, none⟩ = some (.int .i64 (rBits 4)) ∧ w'.cell? ⟨w.heap.size + 1, 4, none⟩ = some (.int .i64 (rNeed 4)))
                  (first
                    | go_keep
                    | (go_split_ands
                       refine ⟨?_, ?_⟩
                       · (rw [hgrow.cell_far _ (by simp; omega) (Ne.symm ag1)]; assumption)
                       · (rw [hgrow.cell_far _ (by simp; omega) (Ne.symm ag2)]; assumption)))
                  ((refine step_append_lies _ (by rfl) _ _ _ (by rfl) (w.heap.size + 2) 23 i0 _ 3 24 Try.underlying36 hi hz0 hz1 hz2 rfl (by omega) u3 4 (rTab 4) (by rfl) ((hown.alloc _).drew) ⟨wr.heap.size, 0, none⟩ 1 1 [.int .i64 (rBits 4), .int .i64 (rNeed 4), .bool true] (by rfl) (by rfl) (World.news_of_block (cs := #[.int .i64 (rBits 4), .int .i64 (rNeed 4), .bool true]) (t := 23) (fr := (0, 0)) (heap_alloc_new wr _)) (by simp [Value.oneCell']) (by omega) (by simp only [maxLen]; omega) (by omega) (by simp; omega) (wr.heap.size + 1) (by simp) ?_; intro gg cap w1 hown1 hgrow hat hlt1)))
              | fail
            have hB1 : Below (w.heap.size + 2) ((w.alloc (.cells bitsCells 3)).alloc (.cells needCells 3)) w1 := ((hB.alloc hzr _).drew).grown hgrow (by simp; omega) (fun j e => (hown.lt j e).1)
            have hown2 : w1.ownsRow (w.heap.size + 2) 23 3 (.slice (some ⟨gg, 0, none⟩) (4 + 1) cap) (4 + 1) (rTab (4 + 1)) := hown1
            clear hown1 hgrow hat
            go_wp2
            go_roundw
            case rel => exact ⟨4 + 1, by omega, by go_num, hown2, hB1⟩
            case measure => simp [intOf]
          · have b1 : ((k : Int) == 0) = false := by simp; omega
            have b2 : ((k : Int) == 2) = false := by simp; omega
            have b3 : ((k : Int) == 4) = false := by simp; omega
            first
              | (go_region_held_law (fun w' => w'.cell? ⟨w.heap.size, k, none⟩ = some (.int .i64 (rBits (k : Int))) ∧ w'.cell? ⟨w.heap.size + 1, k, none⟩ = some (.int .i64 (rNeed (k : Int))))
                  (first
                    | go_keep
                    | (go_split_ands
                       refine ⟨?_, ?_⟩
                       · (rw [hgrow.cell_far _ (by simp; omega) (Ne.symm ag1)]; assumption)
                       · (rw [hgrow.cell_far _ (by simp; omega) (Ne.symm ag2)]; assumption)))
                  ((refine step_append_lies _ (by rfl) _ _ _ (by rfl) (w.heap.size + 2) 23 i0 _ 3 24 Try.underlying36 hi hz0 hz1 hz2 rfl (by omega) u3 k (rTab k) (by rfl) ((hown.alloc _).drew) ⟨wr.heap.size, 0, none⟩ 1 1 [.int .i64 (rBits (k : Int)), .int .i64 (rNeed (k : Int)), .bool false] (by rfl) (by rfl) (World.news_of_block (cs := #[.int .i64 (rBits (k : Int)), .int .i64 (rNeed (k : Int)), .bool false]) (t := 23) (fr := (0, 0)) (heap_alloc_new wr _)) (by simp [Value.oneCell']) (by omega) (by simp only [maxLen]; omega) (by omega) (by simp; omega) (wr.heap.size + 1) (by simp) ?_; intro gg cap w1 hown1 hgrow hat hlt1)))
              | fail
            have hB1 : Below (w.heap.size + 2) ((w.alloc (.cells bitsCells 3)).alloc (.cells needCells 3)) w1 := ((hB.alloc hzr _).drew).grown hgrow (by simp; omega) (fun j e => (hown.lt j e).1)
            have hown2 : w1.ownsRow (w.heap.size + 2) 23 3 (.slice (some ⟨gg, 0, none⟩) (k + 1) cap) (k + 1) (rTab (k + 1)) := by
              have hb : rBasic (k : Int) = false := by
                rcases rowCase (k : Int) (by omega) (by omega) with ⟨b1, b4⟩ | ⟨b1, b2, b4⟩ | ⟨b1, b2, b3, b4⟩ | ⟨b1, b2, b3, b4⟩ <;> simp_all
              show w1.ownsRow _ _ _ _ _ (rTab k ++ [.int .i64 (rBits k), .int .i64 (rNeed k), .bool (rBasic k)])
              rw [hb]
              exact hown1
            clear hown1 hgrow hat
            go_wp2
            go_roundw
            case rel => exact ⟨k + 1, by omega, by go_num, hown2, hB1⟩
            case measure => simp [intOf]; omega
    · obtain rfl : k = 12 := by omega
      go_wp2
      go_ret
      exact ⟨_, rfl, ownsRow_base hown (by omega), (((Below.refl _ _).alloc (Nat.le_refl _) _).alloc (by simp) _).trans (hB.mono (by omega))⟩

/-- The table's rows lie in block g. -/
def TabAt (w : World) (g : Nat) : Prop := ∀ k : Int, 0 ≤ k → k < 12 → w.cell? ⟨g, k.toNat * 3, none⟩ = some (.int .i64 (rBits k)) ∧ w.cell? ⟨g, k.toNat * 3 + 1, none⟩ = some (.int .i64 (rNeed k)) ∧ w.cell? ⟨g, k.toNat * 3 + 2, none⟩ = some (.bool (rBasic k))
theorem rTab_at (k : Int) (h0 : 0 ≤ k) (h1 : k < 12) : (rTab 12)[k.toNat * 3]? = some (.int .i64 (rBits k)) ∧ (rTab 12)[k.toNat * 3 + 1]? = some (.int .i64 (rNeed k)) ∧ (rTab 12)[k.toNat * 3 + 2]? = some (.bool (rBasic k)) :=
  cases12 (P := fun k => (rTab 12)[k.toNat * 3]? = some (.int .i64 (rBits k)) ∧ (rTab 12)[k.toNat * 3 + 1]? = some (.int .i64 (rNeed k)) ∧ (rTab 12)[k.toNat * 3 + 2]? = some (.bool (rBasic k)))
    ⟨⟨rfl, rfl, rfl⟩, ⟨rfl, rfl, rfl⟩, ⟨rfl, rfl, rfl⟩, ⟨rfl, rfl, rfl⟩, ⟨rfl, rfl, rfl⟩, ⟨rfl, rfl, rfl⟩, ⟨rfl, rfl, rfl⟩, ⟨rfl, rfl, rfl⟩, ⟨rfl, rfl, rfl⟩, ⟨rfl, rfl, rfl⟩, ⟨rfl, rfl, rfl⟩, ⟨rfl, rfl, rfl⟩⟩ k h0 h1
theorem tabAt_below {w w1 : World} {g : Nat} (h : TabAt w g) (hg : g < w.heap.size) (hb : Below w.heap.size w w1) : TabAt w1 g := fun k h0 h1 => by
  obtain ⟨a, b, c⟩ := h k h0 h1
  exact ⟨(hb.cell (p := ⟨g, _, none⟩) hg).trans a, (hb.cell (p := ⟨g, _, none⟩) hg).trans b, (hb.cell (p := ⟨g, _, none⟩) hg).trans c⟩
theorem reftab (w : World) : Calls Try.prog 17 #[] w fun e w' => ∃ g cap, e = .returned (.slice (some ⟨g, 0, none⟩) 12 cap) ∧ w.heap.size ≤ g ∧ g < w'.heap.size ∧ TabAt w' g ∧ Below w.heap.size w w' := by
  refine (reftable_any w).mono ?_
  rintro e w1 ⟨v, rfl, hown, hB⟩
  have ho := hown
  obtain ⟨_, h2⟩ := hown
  rcases h2 with ⟨_, h⟩ | ⟨g, cap, cur, rfl, hg, hh, _⟩
  · omega
  · have hlt : g < w1.heap.size := (Array.getElem?_eq_some_iff.1 hh).1
    refine ⟨g, cap, rfl, hg, hlt, fun k h0 h1 => ?_, hB⟩
    obtain ⟨a, b, c⟩ := rTab_at k h0 h1
    exact ⟨(ho.cellAt _ (by omega)).trans a, (ho.cellAt _ (by omega)).trans b, (ho.cellAt _ (by omega)).trans c⟩

end Go.Proofs.Ytpcndmpdiaceeaa
