/-
  The walk of RateMonotone: airtime does not fall when the number of bytes grows, does not rise when the index grows, and two transmissions take at least as long as one with all their bytes.
-/
import Derived.Test.YtpcndmpdiaceeaaRateAlive
namespace Go.Proofs.Ytpcndmpdiaceeaa.rateMonotone
open Go.ChangeShapes Go.WideShapes Go.ChangeAt Go.RowKit

-- one of the indices or numbers of bytes is out of range
set_option maxHeartbeats 800000 in
theorem walk_no (i k a b : Int) (h : ¬ ((0 ≤ i ∧ i < 12) ∧ (0 ≤ k ∧ k < 12) ∧ (0 ≤ a ∧ a ≤ 65535) ∧ 0 ≤ b ∧ b ≤ 65535)) (w : World) :
    Calls Try.prog 4 #[.int .i64 i, .int .i64 k, .int .i64 a, .int .i64 b] w fun e w' => e = .returned (.bool true) ∧ Below w.heap.size w w' := by
  have hc : (airE i a != 0) = true ∨ (airE i a != 0) = false ∧ (airE i b != 0) = true ∨ (airE i a != 0) = false ∧ (airE i b != 0) = false ∧ (airE k a != 0) = true := by
    cases e1 : airOk i a <;> cases e2 : airOk i b <;> cases e3 : airOk k a <;> simp [airE, e1, e2, e3]
    simp only [airOk, decide_eq_true_eq] at e1 e2 e3
    omega
  have H := Lib.hid h
  clear h
  rcases hc with c1 | ⟨c1, c2⟩ | ⟨c1, c2, c3⟩
  all_goals
    go_enter Try.func4, Try.ntmps4
    go_wp2_with fail
    refine (alive_any _).mono ?_
    rintro e w0 ⟨rfl, hB0⟩
    have hz0 := hB0.size
    go_wp2_with fail
    refine (airF_any _ _ _).mono ?_
    rintro e w1 ⟨rfl, hb1⟩
    have hB1 := hB0.trans (hb1.mono hz0)
    have hz1 := hB1.size
    go_wp2_with fail
    refine (airF_any _ _ _).mono ?_
    rintro e w2 ⟨rfl, hb2⟩
    have hB2 := hB1.trans (hb2.mono hz1)
    have hz2 := hB2.size
    go_wp2_with fail
    refine (airF_any _ _ _).mono ?_
    rintro e w3 ⟨rfl, hb3⟩
    have hB3 := hB2.trans (hb3.mono hz2)
    have hz3 := hB3.size
    go_wp2
    go_ret
    exact ⟨rfl, hB3⟩
set_option maxHeartbeats 1600000 in
theorem walk_yes (i k a b : Int) (h0 : 0 ≤ i) (h1 : i < 12) (h2 : 0 ≤ k) (h3 : k < 12) (h4 : 0 ≤ a) (h5 : a ≤ 65535) (h6 : 0 ≤ b) (h7 : b ≤ 65535) (w : World) :
    Calls Try.prog 4 #[.int .i64 i, .int .i64 k, .int .i64 a, .int .i64 b] w fun e w' => e = .returned (.bool true) ∧ Below w.heap.size w w' := by
  have b1 := rAir_bounds i a h0 h1 h4 h5
  have b2 := rAir_bounds i b h0 h1 h6 h7
  have b3 := rAir_bounds k a h2 h3 h4 h5
  have hm : a ≤ b → rAir i a ≤ rAir i b := rAir_mono i a b h0 h1
  have hn : i ≤ k → rAir k a ≤ rAir i a := fun h => rAir_anti i k a h0 h h3 h4
  have hs := rAir_add i a b h0 h1
  have t1 : ((rAir i a % 4) == 0) = true := by simp; omega
  have t2 : decide (24 ≤ rAir i a) = true := by simp; omega
  by_cases hab : a + b ≤ 65535
  · have t3 : decide (65535 < a + b) = false := by simp; omega
    have b4 := rAir_bounds i (a + b) h0 h1 (by omega) hab
    have c1 : b < a ∨ a ≤ b ∧ rAir i a ≤ rAir i b := fr_lt_or hm
    have c2 : k < i ∨ i ≤ k ∧ rAir k a ≤ rAir i a := fr_lt_or hn
    clear hm hn
    rcases c1 with g1 | ⟨g1, g1'⟩ <;> rcases c2 with g2 | ⟨g2, g2'⟩
    all_goals
      go_enter Try.func4, Try.ntmps4
      go_wp2_with fail
      refine (alive_any _).mono ?_
      rintro e w0 ⟨rfl, hB0⟩
      have hz0 := hB0.size
      go_wp2_with fail
      refine (airF_yes _ _ (by omega) (by omega) (by omega) (by omega) _).mono ?_
      rintro e w1 ⟨rfl, hb1⟩
      have hB1 := hB0.trans (hb1.mono hz0)
      have hz1 := hB1.size
      go_wp2_with fail
      refine (airF_yes _ _ (by omega) (by omega) (by omega) (by omega) _).mono ?_
      rintro e w2 ⟨rfl, hb2⟩
      have hB2 := hB1.trans (hb2.mono hz1)
      have hz2 := hB2.size
      go_wp2_with fail
      refine (airF_yes _ _ (by omega) (by omega) (by omega) (by omega) _).mono ?_
      rintro e w3 ⟨rfl, hb3⟩
      have hB3 := hB2.trans (hb3.mono hz2)
      have hz3 := hB3.size
      go_wp2_with fail
      refine (airF_yes _ _ (by omega) (by omega) (by omega) (by omega) _).mono ?_
      rintro e w4 ⟨rfl, hb4⟩
      have hB4 := hB3.trans (hb4.mono hz3)
      have hz4 := hB4.size
      go_wp2
      go_ret
      exact ⟨rfl, hB4⟩
  · have t3 : decide (65535 < a + b) = true := by simp; omega
    clear hs
    have c1 : b < a ∨ a ≤ b ∧ rAir i a ≤ rAir i b := fr_lt_or hm
    have c2 : k < i ∨ i ≤ k ∧ rAir k a ≤ rAir i a := fr_lt_or hn
    clear hm hn
    rcases c1 with g1 | ⟨g1, g1'⟩ <;> rcases c2 with g2 | ⟨g2, g2'⟩
    all_goals
      go_enter Try.func4, Try.ntmps4
      go_wp2_with fail
      refine (alive_any _).mono ?_
      rintro e w0 ⟨rfl, hB0⟩
      have hz0 := hB0.size
      go_wp2_with fail
      refine (airF_yes _ _ (by omega) (by omega) (by omega) (by omega) _).mono ?_
      rintro e w1 ⟨rfl, hb1⟩
      have hB1 := hB0.trans (hb1.mono hz0)
      have hz1 := hB1.size
      go_wp2_with fail
      refine (airF_yes _ _ (by omega) (by omega) (by omega) (by omega) _).mono ?_
      rintro e w2 ⟨rfl, hb2⟩
      have hB2 := hB1.trans (hb2.mono hz1)
      have hz2 := hB2.size
      go_wp2_with fail
      refine (airF_yes _ _ (by omega) (by omega) (by omega) (by omega) _).mono ?_
      rintro e w3 ⟨rfl, hb3⟩
      have hB3 := hB2.trans (hb3.mono hz2)
      have hz3 := hB3.size
      go_wp2_with fail
      refine (airF_no _ _ (by omega) _).mono ?_
      rintro e w4 ⟨rfl, hb4⟩
      have hB4 := hB3.trans (hb4.mono hz3)
      have hz4 := hB4.size
      go_wp2
      go_ret
      exact ⟨rfl, hB4⟩
theorem walk (i k a b : Int) (_ : -9223372036854775808 ≤ i ∧ i ≤ 9223372036854775807) (_ : -9223372036854775808 ≤ k ∧ k ≤ 9223372036854775807) (_ : -9223372036854775808 ≤ a ∧ a ≤ 9223372036854775807) (_ : -9223372036854775808 ≤ b ∧ b ≤ 9223372036854775807) (w : World) :
    Calls Try.prog 4 #[.int .i64 i, .int .i64 k, .int .i64 a, .int .i64 b] w fun e w' => e = .returned (.bool true) ∧ Below w.heap.size w w' := by
  by_cases h : (0 ≤ i ∧ i < 12) ∧ (0 ≤ k ∧ k < 12) ∧ (0 ≤ a ∧ a ≤ 65535) ∧ 0 ≤ b ∧ b ≤ 65535
  · exact walk_yes i k a b h.1.1 h.1.2 h.2.1.1 h.2.1.2 h.2.2.1.1 h.2.2.1.2 h.2.2.2.1 h.2.2.2.2 w
  · exact walk_no i k a b h w
end Go.Proofs.Ytpcndmpdiaceeaa.rateMonotone
