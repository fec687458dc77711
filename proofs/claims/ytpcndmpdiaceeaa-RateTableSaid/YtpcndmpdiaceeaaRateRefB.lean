/-
  Contracts of the reference of layer 9: Get, Air, Best, Response, Reply, Total, Length. Nothing that lay in memory is changed.
-/
import Derived.Test.YtpcndmpdiaceeaaRateRef
namespace Go.Proofs.Ytpcndmpdiaceeaa
open Go.ChangeShapes Go.WideShapes Go.ChangeAt Go.RowKit

theorem refget_yes (i : Int) (h0 : 0 ≤ i) (h1 : i < 12) (w : World) : Calls Try.prog 11 #[.int .i64 i] w fun e w' => e = .returned (.tuple #[.agg #[.int .i64 (rBits i), .int .i64 (rNeed i), .bool (rBasic i)], .int .i64 0]) ∧ Below w.heap.size w w' := by
  go_enter Try.func11, Try.ntmps11
  go_wp2_with fail
  refine (reftab _).mono ?_
  rintro e w1 ⟨g, cap, rfl, hg, hg2, hT, hb1⟩
  clear hT
  have hB1 : Below w.heap.size w w1 := ((Below.refl _ _).alloc (Nat.le_refl _) _).trans (hb1.mono (by simp))
  obtain ⟨hc1, hf1⟩ := bcell hb1
  have hz1 := hb1.size
  simp only [World.size_alloc] at hz1 hg
  have hy1 : w.heap.size < w1.heap.size := by omega
  go_wp2_with fail
  refine (reftab _).mono ?_
  rintro e w2 ⟨g2, cap2, rfl, hg3, hg4, hT, hb2⟩
  obtain ⟨a, b, c⟩ := hT i h0 h1
  clear hT
  have hB2 := hB1.trans (hb2.mono hB1.size)
  obtain ⟨hc2, hf2⟩ := bcell hb2
  have hz2 := hb2.size
  have hy2 : w.heap.size < w2.heap.size := by omega
  go_wp2
  refine bodyPost_ret (v := .tuple #[.agg #[.int .i64 (rBits i), .int .i64 (rNeed i), .bool (rBasic i)], .int .i64 0]) (by simp [results, Try.results11, go_sem, hc1, hc2, hy1]) rfl ?_
  exact ⟨rfl, ((hB2.setCell (Nat.le_refl _) _).setCell (Nat.le_refl _) _).setCell (Nat.le_refl _) _⟩
theorem refget_no (i : Int) (h : i < 0 ∨ 12 ≤ i) (w : World) : Calls Try.prog 11 #[.int .i64 i] w fun e w' => e = .returned (.tuple #[.agg #[.int .i64 0, .int .i64 0, .bool false], .int .i64 2]) ∧ Below w.heap.size w w' := by
  rcases h with h | h
  · have t0 : decide (i < 0) = true := by simp; omega
    go_enter Try.func11, Try.ntmps11
    go_wp2
    refine bodyPost_ret (v := .tuple #[.agg #[.int .i64 0, .int .i64 0, .bool false], .int .i64 2]) (by simp [results, Try.results11, go_sem]) rfl ?_
    exact ⟨rfl, by go_grown⟩
  · have t0 : decide (i < 0) = false := by simp; omega
    have t1 : decide (12 ≤ i) = true := by simp; omega
    go_enter Try.func11, Try.ntmps11
    go_wp2_with fail
    refine (reftab _).mono ?_
    rintro e w1 ⟨g, cap, rfl, hg, hg2, hT, hb1⟩
    clear hT
    obtain ⟨hc1, hf1⟩ := bcell hb1
    have hz1 := hb1.size
    simp only [World.size_alloc] at hz1 hg
    have hy1 : w.heap.size < w1.heap.size := by omega
    go_wp2
    have hB1 : Below w.heap.size w w1 := ((Below.refl _ _).alloc (Nat.le_refl _) _).trans (hb1.mono (by simp))
    refine bodyPost_ret (v := .tuple #[.agg #[.int .i64 0, .int .i64 0, .bool false], .int .i64 2]) (by simp [results, Try.results11, go_sem, hc1]) rfl ?_
    exact ⟨rfl, by go_grown⟩

/-! ### The plain law of the reference's symbols -/
theorem symbols_eq (b m : Int) (hb : 1 ≤ b) : (m + b - 1) / b = if m / b * b < m then m / b + 1 else m / b := by
  have h1 := Int.ediv_mul_add_emod m b
  have h2 := Int.emod_lt_of_pos m (show 0 < b by omega)
  have h3 := Int.emod_nonneg m (show b ≠ 0 by omega)
  split
  · rename_i h
    have e : m + b - 1 = (m % b - 1) + (m / b + 1) * b := by rw [Int.add_mul]; omega
    rw [e, Int.add_mul_ediv_right _ _ (by omega), Int.ediv_eq_zero_of_lt (by omega) (by omega)]
    omega
  · rename_i h
    have h0 : m % b = 0 := by omega
    have e : m + b - 1 = (b - 1) + m / b * b := by omega
    rw [e, Int.add_mul_ediv_right _ _ (by omega), Int.ediv_eq_zero_of_lt (by omega) (by omega)]
    omega

set_option maxHeartbeats 800000 in
theorem refair_yes (i n : Int) (h0 : 0 ≤ i) (h1 : i < 12) (h2 : 0 ≤ n) (h3 : n ≤ 65535) (w : World) : Calls Try.prog 25 #[.int .i64 i, .int .i64 n] w fun e w' => e = .returned (.tuple #[.int .i64 (rAir i n), .int .i64 0]) ∧ Below w.heap.size w w' := by
  have hp := rBits_pos i h0 h1
  have hq0 : 0 ≤ (8 * n + 22) / rBits i := Int.ediv_nonneg (by omega) (by omega)
  have hq1 : (8 * n + 22) / rBits i ≤ 30000 := by
    have h := Int.ediv_lt_of_lt_mul (a := 8 * n + 22) (b := 30001) (c := rBits i) (by omega) (by omega)
    omega
  have hq2 : (8 * n + 22) / rBits i * rBits i ≤ 8 * n + 22 := Int.ediv_mul_le _ (by omega)
  have hq3 : 0 ≤ (8 * n + 22) / rBits i * rBits i := Int.mul_nonneg hq0 (by omega)
  have t0 : decide (n < 0) = false := by simp; omega
  have t1 : decide (65535 < n) = false := by simp; omega
  have hs := symbols_eq (rBits i) (8 * n + 22) (by omega)
  by_cases hc : (8 * n + 22) / rBits i * rBits i < 8 * n + 22
  · have hr : rAir i n = 20 + 4 * ((8 * n + 22) / rBits i + 1) := by unfold rAir; rw [hs, if_pos hc]
    have HR := Lib.hid hr
    clear hr hs
    go_enter Try.func25, Try.ntmps25
    go_wp2_with (go_at_call 11; refine (refget_yes i h0 h1 _).mono ?_; rintro e w1 ⟨rfl, hb1⟩; obtain ⟨hc1, hf1⟩ := bcell hb1; have hz1 := hb1.size)
    go_ret2
    exact ⟨by rw [HR.out]; rfl, by go_grown⟩
  · have hr : rAir i n = 20 + 4 * ((8 * n + 22) / rBits i) := by unfold rAir; rw [hs, if_neg hc]
    have HR := Lib.hid hr
    clear hr hs
    go_enter Try.func25, Try.ntmps25
    go_wp2_with (go_at_call 11; refine (refget_yes i h0 h1 _).mono ?_; rintro e w1 ⟨rfl, hb1⟩; obtain ⟨hc1, hf1⟩ := bcell hb1; have hz1 := hb1.size)
    go_ret2
    exact ⟨by rw [HR.out]; rfl, by go_grown⟩
end Go.Proofs.Ytpcndmpdiaceeaa
