/-
  Contracts of package rate's functions: Count, Get, Best, Response, air, reply, answer, Air, AckAir, RtsAir, BackAir, Total. Nothing that lay in memory is changed.
-/
import Derived.Test.YtpcndmpdiaceeaaRateTab
import Derived.Lib.Hide
namespace Go.Proofs.Ytpcndmpdiaceeaa
open Go.ChangeShapes Go.WideShapes Go.ChangeAt Go.RowKit

theorem cases12 {P : Int → Prop} (h : P 0 ∧ P 1 ∧ P 2 ∧ P 3 ∧ P 4 ∧ P 5 ∧ P 6 ∧ P 7 ∧ P 8 ∧ P 9 ∧ P 10 ∧ P 11) (i : Int) (h0 : 0 ≤ i) (h1 : i < 12) : P i := by
  obtain ⟨a0, a1, a2, a3, a4, a5, a6, a7, a8, a9, a10, a11⟩ := h
  have : i = 0 ∨ i = 1 ∨ i = 2 ∨ i = 3 ∨ i = 4 ∨ i = 5 ∨ i = 6 ∨ i = 7 ∨ i = 8 ∨ i = 9 ∨ i = 10 ∨ i = 11 := by omega
  rcases this with rfl | rfl | rfl | rfl | rfl | rfl | rfl | rfl | rfl | rfl | rfl | rfl <;> assumption

theorem run_tab (i : Int) (h0 : 0 ≤ i) (h1 : i < 12) (w : World) : (Instr.index 45 (.agg tabCells) (.int .i64 i)).run Try.prog w = .ok (.agg #[.int .i64 (rBits i), .int .i64 (rNeed i), .bool (rBasic i)]) w :=
  cases12 (P := fun i => (Instr.index 45 (.agg tabCells) (.int .i64 i)).run Try.prog w = .ok (.agg #[.int .i64 (rBits i), .int .i64 (rNeed i), .bool (rBasic i)]) w)
    ⟨by kernel_rfl, by kernel_rfl, by kernel_rfl, by kernel_rfl, by kernel_rfl, by kernel_rfl, by kernel_rfl, by kernel_rfl, by kernel_rfl, by kernel_rfl, by kernel_rfl, by kernel_rfl⟩ i h0 h1

theorem count_any (w : World) : Calls Try.prog 16 #[] w fun e w' => e = .returned (.int .i64 12) ∧ Below w.heap.size w w' := by
  go_enter Try.func16, Try.ntmps16
  go_wp2_with (go_at_call 29; refine (table_any _).mono ?_; rintro e w' ⟨rfl, hb⟩)
  go_ret
  exact ⟨rfl, by assumption⟩

theorem get_yes (i : Int) (h0 : 0 ≤ i) (h1 : i < 12) (w : World) : Calls Try.prog 10 #[.int .i64 i] w fun e w' => e = .returned (.tuple #[.agg #[.int .i64 (rBits i), .int .i64 (rNeed i), .bool (rBasic i)], .int .i64 0]) ∧ Below w.heap.size w w' := by
  have hix := run_tab i h0 h1
  have t0 : decide (i < 0) = false := by simp; omega
  have t1 : decide (12 ≤ i) = false := by simp; omega
  go_enter Try.func10, Try.ntmps10
  go_wp2_with (first | (go_at_call 29; refine (table_any _).mono ?_; rintro e w2 ⟨rfl, hb2⟩; obtain ⟨hc2, hf2⟩ := bcell hb2; have hz2 := hb2.size; have hy2 : w.heap.size < w2.heap.size := by omega) | (go_at_call 16; refine (count_any _).mono ?_; rintro e w1 ⟨rfl, hb1⟩; obtain ⟨hc1, hf1⟩ := bcell hb1; have hz1 := hb1.size; simp only [World.size_alloc] at hz1; have hy1 : w.heap.size < w1.heap.size := by omega))
  have hB1 : Below w.heap.size w w1 := ((Below.refl _ _).alloc (Nat.le_refl _) _).trans (hb1.mono (by simp))
  have hB2 : Below w.heap.size w w2 := hB1.trans (hb2.mono (by omega))
  refine bodyPost_ret (v := .tuple #[.agg #[.int .i64 (rBits i), .int .i64 (rNeed i), .bool (rBasic i)], .int .i64 0]) (by simp [results, Try.results10, go_sem, hc1, hc2, hy1]) rfl ?_
  exact ⟨rfl, ((hB2.setCell (Nat.le_refl _) _).setCell (Nat.le_refl _) _).setCell (Nat.le_refl _) _⟩

theorem get_no (i : Int) (h : i < 0 ∨ 12 ≤ i) (w : World) : Calls Try.prog 10 #[.int .i64 i] w fun e w' => e = .returned (.tuple #[.agg #[.int .i64 0, .int .i64 0, .bool false], .int .i64 2]) ∧ Below w.heap.size w w' := by
  rcases h with h | h
  · have t0 : decide (i < 0) = true := by simp; omega
    go_enter Try.func10, Try.ntmps10
    go_wp2
    refine bodyPost_ret (v := .tuple #[.agg #[.int .i64 0, .int .i64 0, .bool false], .int .i64 2]) (by simp [results, Try.results10, go_sem]) rfl ?_
    exact ⟨rfl, by go_grown⟩
  · have t0 : decide (i < 0) = false := by simp; omega
    have t1 : decide (12 ≤ i) = true := by simp; omega
    go_enter Try.func10, Try.ntmps10
    go_wp2_with (go_at_call 16; refine (count_any _).mono ?_; rintro e w1 ⟨rfl, hb1⟩; obtain ⟨hc1, hf1⟩ := bcell hb1; have hz1 := hb1.size; simp only [World.size_alloc] at hz1; have hy1 : w.heap.size < w1.heap.size := by omega)
    have hB1 : Below w.heap.size w w1 := ((Below.refl _ _).alloc (Nat.le_refl _) _).trans (hb1.mono (by simp))
    refine bodyPost_ret (v := .tuple #[.agg #[.int .i64 0, .int .i64 0, .bool false], .int .i64 2]) (by simp [results, Try.results10, go_sem, hc1]) rfl ?_
    exact ⟨rfl, by go_grown⟩

/-- The airtime. -/
def rAir (i n : Int) : Int := 20 + 4 * ((8 * n + 22 + rBits i - 1) / rBits i)
theorem rBits_pos (i : Int) (h0 : 0 ≤ i) (h1 : i < 12) : 24 ≤ rBits i ∧ rBits i ≤ 476 :=
  cases12 (P := fun i => 24 ≤ rBits i ∧ rBits i ≤ 476) ⟨by decide, by decide, by decide, by decide, by decide, by decide, by decide, by decide, by decide, by decide, by decide, by decide⟩ i h0 h1

theorem rQuo_le (i n : Int) (h0 : 0 ≤ i) (h1 : i < 12) (h2 : 0 ≤ n) (h3 : n ≤ 65535) : 0 ≤ (8 * n + 22 + rBits i - 1) / rBits i ∧ (8 * n + 22 + rBits i - 1) / rBits i ≤ 30000 := by
  have hp := rBits_pos i h0 h1
  refine ⟨Int.ediv_nonneg (by omega) (by omega), ?_⟩
  have h := Int.ediv_lt_of_lt_mul (a := 8 * n + 22 + rBits i - 1) (b := 30001) (c := rBits i) (by omega) (by omega)
  omega

theorem air_yes (i n : Int) (h0 : 0 ≤ i) (h1 : i < 12) (h2 : 0 ≤ n) (h3 : n ≤ 65535) (w : World) : Calls Try.prog 30 #[.int .i64 i, .int .i64 n] w fun e w' => e = .returned (.tuple #[.int .i64 (rAir i n), .int .i64 0]) ∧ Below w.heap.size w w' := by
  have hp := rBits_pos i h0 h1
  have hq := rQuo_le i n h0 h1 h2 h3
  have t0 : decide (n < 0) = false := by simp; omega
  have t1 : decide (65535 < n) = false := by simp; omega
  go_enter Try.func30, Try.ntmps30
  go_wp2_with (go_at_call 10; refine (get_yes i h0 h1 _).mono ?_; rintro e w1 ⟨rfl, hb1⟩; obtain ⟨hc1, hf1⟩ := bcell hb1; have hz1 := hb1.size)
  have hB1 : Below w.heap.size w w1 := hb1
  go_ret2
  exact ⟨rfl, by go_grown⟩
theorem air_no (i n : Int) (h : ¬ ((0 ≤ i ∧ i < 12) ∧ 0 ≤ n ∧ n ≤ 65535)) (w : World) : Calls Try.prog 30 #[.int .i64 i, .int .i64 n] w fun e w' => e = .returned (.tuple #[.int .i64 0, .int .i64 2]) ∧ Below w.heap.size w w' := by
  by_cases hi : 0 ≤ i ∧ i < 12
  · by_cases hn : n < 0
    · have t0 : decide (n < 0) = true := by simp; omega
      go_enter Try.func30, Try.ntmps30
      go_wp2_with (go_at_call 10; refine (get_yes i hi.1 hi.2 _).mono ?_; rintro e w1 ⟨rfl, hb1⟩; obtain ⟨hc1, hf1⟩ := bcell hb1; have hz1 := hb1.size)
      go_ret2
      exact ⟨rfl, by go_grown⟩
    · have t0 : decide (n < 0) = false := by simp; omega
      have t1 : decide (65535 < n) = true := by simp; omega
      go_enter Try.func30, Try.ntmps30
      go_wp2_with (go_at_call 10; refine (get_yes i hi.1 hi.2 _).mono ?_; rintro e w1 ⟨rfl, hb1⟩; obtain ⟨hc1, hf1⟩ := bcell hb1; have hz1 := hb1.size)
      go_ret2
      exact ⟨rfl, by go_grown⟩
  · have hi' : i < 0 ∨ 12 ≤ i := by omega
    go_enter Try.func30, Try.ntmps30
    go_wp2_with (go_at_call 10; refine (get_no i hi' _).mono ?_; rintro e w1 ⟨rfl, hb1⟩; obtain ⟨hc1, hf1⟩ := bcell hb1; have hz1 := hb1.size)
    go_ret2
    exact ⟨rfl, by go_grown⟩

theorem airF_yes (i n : Int) (h0 : 0 ≤ i) (h1 : i < 12) (h2 : 0 ≤ n) (h3 : n ≤ 65535) (w : World) : Calls Try.prog 19 #[.int .i64 i, .int .i64 n] w fun e w' => e = .returned (.tuple #[.int .i64 (rAir i n), .int .i64 0]) ∧ Below w.heap.size w w' := by
  go_enter Try.func19, Try.ntmps19
  go_wp2_with (go_at_call 30; refine (air_yes i n h0 h1 h2 h3 _).mono ?_; rintro e w1 ⟨rfl, hb1⟩)
  go_ret2
  exact ⟨rfl, by go_grown⟩
theorem airF_no (i n : Int) (h : ¬ ((0 ≤ i ∧ i < 12) ∧ 0 ≤ n ∧ n ≤ 65535)) (w : World) : Calls Try.prog 19 #[.int .i64 i, .int .i64 n] w fun e w' => e = .returned (.tuple #[.int .i64 0, .int .i64 2]) ∧ Below w.heap.size w w' := by
  have H := Lib.hid h
  clear h
  go_enter Try.func19, Try.ntmps19
  go_wp2_with (go_at_call 30; refine (air_no i n H.out _).mono ?_; rintro e w1 ⟨rfl, hb1⟩)
  go_ret2
  exact ⟨rfl, by go_grown⟩
end Go.Proofs.Ytpcndmpdiaceeaa
