/-
  The walk of RateLevels: Best returns a rate whose Need is at most the level, no rate with a greater index has this property, and a better level never makes it smaller.
-/
import Derived.Test.YtpcndmpdiaceeaaRateAlive
namespace Go.Proofs.Ytpcndmpdiaceeaa.rateLevels
open Go.ChangeShapes Go.WideShapes Go.ChangeAt Go.RowKit

/-! ### Plain laws -/
structure Yes (l a : Int) (k : Nat) : Prop where
  low : 0 ≤ a
  high : a < k
  need : rNeed a ≤ l
  most : ∀ j : Int, a < j → j < k → l < rNeed j
structure No (l a : Int) (k : Nat) : Prop where
  zero : a = 0
  most : ∀ j : Int, 0 ≤ j → j < k → l < rNeed j
theorem best_law (l : Int) (k : Nat) : ((rBest l k).2 = true ∧ Yes l (rBest l k).1 k) ∨ ((rBest l k).2 = false ∧ No l (rBest l k).1 k) := by
  induction k with
  | zero => exact .inr ⟨rfl, ⟨rfl, fun j a b => by omega⟩⟩
  | succ k ih =>
    rw [rBest_succ]
    by_cases h : rNeed (k : Int) ≤ l
    · rw [if_pos h]
      exact .inl ⟨rfl, ⟨by simp, by simp; omega, h, fun j a b => by simp at a; omega⟩⟩
    · rw [if_neg h]
      rcases ih with ⟨e, y⟩ | ⟨e, y⟩
      · refine .inl ⟨e, ⟨y.low, by have := y.high; omega, y.need, fun j a b => ?_⟩⟩
        by_cases hj : j = k
        · subst hj; omega
        · exact y.most j a (by omega)
      · refine .inr ⟨e, ⟨y.zero, fun j a b => ?_⟩⟩
        by_cases hj : j = k
        · subst hj; omega
        · exact y.most j a (by omega)
theorem best_is (l a : Int) (is : Bool) (h : rBest l 12 = (a, is)) (w : World) : Calls Try.prog 12 #[.int .i64 l] w fun e w' => e = .returned (.tuple #[.int .i64 a, .bool is]) ∧ Below w.heap.size w w' := by
  have := best_any l w
  rw [h] at this
  exact this

/-- The facts about round k. -/
def RoundY (l a k : Int) : Prop := (decide (rNeed k ≤ l) = false ∧ decide (a < k) = true ∧ (k == a) = false) ∨ (decide (rNeed k ≤ l) = true ∧ decide (a < k) = false ∧ (k == a) = true ∧ decide (l < rNeed k) = false) ∨ (decide (rNeed k ≤ l) = true ∧ decide (a < k) = false ∧ (k == a) = false) ∨ (decide (rNeed k ≤ l) = false ∧ decide (a < k) = false ∧ (k == a) = false)
theorem roundY (l a k : Int) (hy : Yes l a 12) (hk : k < 12) : RoundY l a k := by
  have y3 := hy.need
  unfold RoundY
  rcases Int.lt_trichotomy k a with g | rfl | g
  · by_cases h : rNeed k ≤ l
    · right; right; left; simp [h]; omega
    · right; right; right; simp; omega
  · right; left; simp [y3]
  · have := hy.most k g (by omega)
    left; simp; omega

set_option maxHeartbeats 1600000 in
theorem walk_yes (l m a b : Int) (iz : Bool) (h1 : rBest l 12 = (a, true)) (h2 : rBest m 12 = (b, iz)) (hy : Yes l a 12) (hm : m < l ∨ l ≤ m ∧ iz = true ∧ a ≤ b) (w : World) :
    Calls Try.prog 5 #[.int .i64 l, .int .i64 m] w fun e w' => e = .returned (.bool true) ∧ Below w.heap.size w w' := by
  have H1 := Lib.hid h1
  have H2 := Lib.hid h2
  have Y := Lib.hid hy
  clear h1 h2 hy
  rcases hm with hm | ⟨hm, rfl, hab⟩
  all_goals
    go_enter Try.func5, Try.ntmps5
    go_wp2_with fail
    refine (alive_any _).mono ?_
    rintro e w0 ⟨rfl, hB0⟩
    have hz0 := hB0.size
    go_wp2_with fail
    refine (best_is l a true H1.out _).mono ?_
    rintro e w1 ⟨rfl, hb1⟩
    have hB1 := hB0.trans (hb1.mono hz0)
    have hz1 := hB1.size
    go_wp2_with fail
    refine (best_is _ _ _ H2.out _).mono ?_
    rintro e w2 ⟨rfl, hb2⟩
    have hB2 := hB1.trans (hb2.mono hz1)
    have hz2 := hB2.size
    go_wp2_with fail
    go_loopw [10] (fun x wr => ∃ k : Nat, k ≤ 12 ∧ x = .int .i64 k ∧ Below w.heap.size w wr) (fun x _ => 12 - (intOf x).toNat)
    case atStart => exact ⟨0, by omega, rfl, hB2⟩
    case round =>
      obtain ⟨k, hk, rfl, hB⟩ := hrel
      have hzr := hB.size
      by_cases hlt : k < 12
      · rcases roundY l a k Y.out (by omega) with ⟨c1, c2, c3⟩ | ⟨c1, c2, c3, c4⟩ | ⟨c1, c2, c3⟩ | ⟨c1, c2, c3⟩
        all_goals
          go_wp2_with fail
          refine (count_any _).mono ?_
          rintro e w3 ⟨rfl, hb3⟩
          have hB3 := hB.trans (hb3.mono hzr)
          have hz3 := hB3.size
          go_wp2_with fail
          refine (get_yes _ (by omega) (by omega) _).mono ?_
          rintro e w4 ⟨rfl, hb4⟩
          have hB4 := hB3.trans (hb4.mono hz3)
          have hz4 := hB4.size
          go_wp2
          go_roundw
          case rel => exact ⟨k + 1, by omega, by go_num, hB4.alloc hz4 _⟩
          case measure => simp [intOf]; omega
      · obtain rfl : k = 12 := by omega
        go_wp2_with fail
        refine (count_any _).mono ?_
        rintro e w3 ⟨rfl, hb3⟩
        have hB3 := hB.trans (hb3.mono hzr)
        go_wp2
        go_ret
        exact ⟨rfl, hB3⟩

set_option maxHeartbeats 1600000 in
theorem walk_no (l m a b : Int) (iz : Bool) (h1 : rBest l 12 = (a, false)) (h2 : rBest m 12 = (b, iz)) (hy : No l a 12) (w : World) :
    Calls Try.prog 5 #[.int .i64 l, .int .i64 m] w fun e w' => e = .returned (.bool true) ∧ Below w.heap.size w w' := by
  obtain rfl := hy.zero
  have H1 := Lib.hid h1
  have H2 := Lib.hid h2
  have Y := Lib.hid hy
  clear h1 h2 hy
  rcases Int.lt_or_le m l with hm | hm
  all_goals
    go_enter Try.func5, Try.ntmps5
    go_wp2_with fail
    refine (alive_any _).mono ?_
    rintro e w0 ⟨rfl, hB0⟩
    have hz0 := hB0.size
    go_wp2_with fail
    refine (best_is l 0 false H1.out _).mono ?_
    rintro e w1 ⟨rfl, hb1⟩
    have hB1 := hB0.trans (hb1.mono hz0)
    have hz1 := hB1.size
    go_wp2_with fail
    refine (best_is _ _ _ H2.out _).mono ?_
    rintro e w2 ⟨rfl, hb2⟩
    have hB2 := hB1.trans (hb2.mono hz1)
    have hz2 := hB2.size
    go_wp2_with fail
    go_loopw [10] (fun x wr => ∃ k : Nat, k ≤ 12 ∧ x = .int .i64 k ∧ Below w.heap.size w wr) (fun x _ => 12 - (intOf x).toNat)
    case atStart => exact ⟨0, by omega, rfl, hB2⟩
    case round =>
      obtain ⟨k, hk, rfl, hB⟩ := hrel
      have hzr := hB.size
      by_cases hlt : k < 12
      · have c1 : decide (rNeed (k : Int) ≤ l) = false := by have := Y.out.most (k : Int) (by omega) (by omega); simp; omega
        go_wp2_with fail
        refine (count_any _).mono ?_
        rintro e w3 ⟨rfl, hb3⟩
        have hB3 := hB.trans (hb3.mono hzr)
        have hz3 := hB3.size
        go_wp2_with fail
        refine (get_yes _ (by omega) (by omega) _).mono ?_
        rintro e w4 ⟨rfl, hb4⟩
        have hB4 := hB3.trans (hb4.mono hz3)
        have hz4 := hB4.size
        go_wp2
        go_roundw
        case rel => exact ⟨k + 1, by omega, by go_num, hB4.alloc hz4 _⟩
        case measure => simp [intOf]; omega
      · obtain rfl : k = 12 := by omega
        go_wp2_with fail
        refine (count_any _).mono ?_
        rintro e w3 ⟨rfl, hb3⟩
        have hB3 := hB.trans (hb3.mono hzr)
        go_wp2
        go_ret
        exact ⟨rfl, hB3⟩

theorem walk (l m : Int) (_ : -9223372036854775808 ≤ l ∧ l ≤ 9223372036854775807) (_ : -9223372036854775808 ≤ m ∧ m ≤ 9223372036854775807) (w : World) :
    Calls Try.prog 5 #[.int .i64 l, .int .i64 m] w fun e w' => e = .returned (.bool true) ∧ Below w.heap.size w w' := by
  obtain ⟨a, is, h1⟩ : ∃ a is, rBest l 12 = (a, is) := ⟨_, _, rfl⟩
  obtain ⟨b, iz, h2⟩ : ∃ b iz, rBest m 12 = (b, iz) := ⟨_, _, rfl⟩
  have p1 := best_law l 12
  have p2 := best_law m 12
  rw [h1] at p1
  rw [h2] at p2
  simp only at p1 p2
  rcases p1 with ⟨e1, y1⟩ | ⟨e1, y1⟩
  · subst e1
    refine walk_yes l m a b iz h1 h2 y1 ?_ w
    by_cases hm : m < l
    · exact .inl hm
    · refine .inr ⟨by omega, ?_⟩
      have g0 := y1.low
      have g1 := y1.high
      have g2 := y1.need
      rcases p2 with ⟨e2, y2⟩ | ⟨e2, y2⟩
      · refine ⟨e2, ?_⟩
        by_cases hab : b < a
        · have := y2.most a hab g1
          omega
        · omega
      · have := y2.most a g0 g1
        omega
  · subst e1
    exact walk_no l m a b iz h1 h2 y1 w
end Go.Proofs.Ytpcndmpdiaceeaa.rateLevels
