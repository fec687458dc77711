/-
  The walk of RateReplies: responses use a basic rate that is not faster than the rate, the fastest of these; longer responses take longer; a response never takes longer than the same bytes at rate 0.
-/
import Derived.Test.YtpcndmpdiaceeaaRateAlive
namespace Go.Proofs.Ytpcndmpdiaceeaa.rateReplies
open Go.ChangeShapes Go.WideShapes Go.ChangeAt Go.RowKit

theorem walk_low (i : Int) (h : i < 0) (w : World) :
    Calls Try.prog 6 #[.int .i64 i] w fun e w' => e = .returned (.bool true) ∧ Below w.heap.size w w' := by
  go_enter Try.func6, Try.ntmps6
  go_wp2_with fail
  refine (alive_any _).mono ?_
  rintro e w0 ⟨rfl, hB0⟩
  have hz0 := hB0.size
  go_wp2_with fail
  refine (response_no _ (by omega) _).mono ?_
  rintro e w1 ⟨rfl, hb1⟩
  have hB1 := hB0.trans (hb1.mono hz0)
  have hz1 := hB1.size
  go_wp2
  go_ret
  exact ⟨rfl, hB1⟩
theorem walk_high (i : Int) (h : 12 ≤ i) (w : World) :
    Calls Try.prog 6 #[.int .i64 i] w fun e w' => e = .returned (.bool true) ∧ Below w.heap.size w w' := by
  go_enter Try.func6, Try.ntmps6
  go_wp2_with fail
  refine (alive_any _).mono ?_
  rintro e w0 ⟨rfl, hB0⟩
  have hz0 := hB0.size
  go_wp2_with fail
  refine (response_no _ (by omega) _).mono ?_
  rintro e w1 ⟨rfl, hb1⟩
  have hB1 := hB0.trans (hb1.mono hz0)
  have hz1 := hB1.size
  go_wp2_with fail
  refine (count_any _).mono ?_
  rintro e w2 ⟨rfl, hb2⟩
  have hB2 := hB1.trans (hb2.mono hz1)
  have hz2 := hB2.size
  go_wp2
  go_ret
  exact ⟨rfl, hB2⟩
set_option maxHeartbeats 1600000 in
theorem walk_yes (i : Int) (h0 : 0 ≤ i) (h1 : i < 12) (w : World) :
    Calls Try.prog 6 #[.int .i64 i] w fun e w' => e = .returned (.bool true) ∧ Below w.heap.size w w' := by
  obtain ⟨r0, r1, r2⟩ := rResp_le i h0 h1
  have c1 := rAir_mono (rResp i) 14 20 r0 (by omega) (by omega)
  have c2 := rAir_mono (rResp i) 20 30 r0 (by omega) (by omega)
  have c3 := rAir_anti 0 (rResp i) 14 (by omega) r0 (by omega) (by omega)
  have b1 := rAir_bounds i 0 h0 h1 (by omega) (by omega)
  have b2 := rAir_bounds (rResp i) 14 r0 (by omega) (by omega) (by omega)
  have d1 : decide (rAir (rResp i) 14 ≤ rAir (rResp i) 20) = true := by simp; omega
  have d2 : decide (rAir (rResp i) 20 ≤ rAir (rResp i) 30) = true := by simp; omega
  have d3 : decide (rAir (rResp i) 14 ≤ rAir 0 14) = true := by simp; omega
  go_enter Try.func6, Try.ntmps6
  go_wp2_with fail
  refine (alive_any _).mono ?_
  rintro e w0 ⟨rfl, hB0⟩
  have hz0 := hB0.size
  go_wp2_with fail
  refine (response_yes _ h0 h1 _).mono ?_
  rintro e w1 ⟨rfl, hb1⟩
  have hB1 := hB0.trans (hb1.mono hz0)
  have hz1 := hB1.size
  go_wp2_with fail
  refine (get_yes _ (by omega) (by omega) _).mono ?_
  rintro e w2 ⟨rfl, hb2⟩
  have hB2 := hB1.trans (hb2.mono hz1)
  have hz2 := hB2.size
  go_wp2_with fail
  go_loopw [8] (fun x wr => ∃ j : Int, rResp i < j ∧ j ≤ i + 1 ∧ x = .int .i64 j ∧ Below w.heap.size w wr) (fun x _ => (i + 1 - intOf x).toNat)
  case atStart => exact ⟨rResp i + 1, by omega, by omega, rfl, hB2.alloc hz2 _⟩
  case round =>
    obtain ⟨j, hj0, hj1, rfl, hB3⟩ := hrel
    have hz3 := hB3.size
    by_cases hlt : j ≤ i
    · have hb : rBasic j = false := by
        cases hb : rBasic j with
        | false => rfl
        | true => have := rResp_max i j h0 h1 (by omega) hlt hb; omega
      go_wp2_with fail
      refine (get_yes _ (by omega) (by omega) _).mono ?_
      rintro e w4 ⟨rfl, hb4⟩
      have hB4 := hB3.trans (hb4.mono hz3)
      have hz4 := hB4.size
      go_wp2
      go_roundw
      case rel => exact ⟨j + 1, by omega, by omega, rfl, hB4.alloc hz4 _⟩
      case measure => simp [intOf]; omega
    · skip
      go_wp2_with fail
      refine (ack_yes _ h0 h1 _).mono ?_
      rintro e w4 ⟨rfl, hb4⟩
      have hB4 := hB3.trans (hb4.mono hz3)
      have hz4 := hB4.size
      go_wp2_with fail
      refine (rts_yes _ h0 h1 _).mono ?_
      rintro e w5 ⟨rfl, hb5⟩
      have hB5 := hB4.trans (hb5.mono hz4)
      have hz5 := hB5.size
      go_wp2_with fail
      refine (back_yes _ h0 h1 _).mono ?_
      rintro e w6 ⟨rfl, hb6⟩
      have hB6 := hB5.trans (hb6.mono hz5)
      have hz6 := hB6.size
      go_wp2_with fail
      refine (airF_yes _ _ (by omega) (by omega) (by omega) (by omega) _).mono ?_
      rintro e w7 ⟨rfl, hb7⟩
      have hB7 := hB6.trans (hb7.mono hz6)
      have hz7 := hB7.size
      go_wp2_with fail
      refine (total_yes _ _ h0 h1 (by omega) (by omega) _).mono ?_
      rintro e w8 ⟨rfl, hb8⟩
      have hB8 := hB7.trans (hb8.mono hz7)
      have hz8 := hB8.size
      go_wp2_with fail
      refine (airF_yes _ _ (by omega) (by omega) (by omega) (by omega) _).mono ?_
      rintro e w9 ⟨rfl, hb9⟩
      have hB9 := hB8.trans (hb9.mono hz8)
      have hz9 := hB9.size
      go_wp2
      go_ret
      exact ⟨rfl, hB9⟩
theorem walk (i : Int) (_ : -9223372036854775808 ≤ i ∧ i ≤ 9223372036854775807) (w : World) :
    Calls Try.prog 6 #[.int .i64 i] w fun e w' => e = .returned (.bool true) ∧ Below w.heap.size w w' := by
  by_cases h : 0 ≤ i ∧ i < 12
  · exact walk_yes i h.1 h.2 w
  · by_cases h2 : i < 0
    · exact walk_low i h2 w
    · exact walk_high i (by omega) w
end Go.Proofs.Ytpcndmpdiaceeaa.rateReplies
