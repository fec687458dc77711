/-
  The walk of RateFits: Length bytes fit into the time, one more does not, and all lengths that fit are at most Length.
-/
import Derived.Test.YtpcndmpdiaceeaaRateAlive
namespace Go.Proofs.Ytpcndmpdiaceeaa.rateFits
open Go.ChangeShapes Go.WideShapes Go.ChangeAt Go.RowKit

theorem walk_bad (i t n : Int) (h : i < 0 ∨ 12 ≤ i) (w : World) :
    Calls Try.prog 7 #[.int .i64 i, .int .i64 t, .int .i64 n] w fun e w' => e = .returned (.bool true) ∧ Below w.heap.size w w' := by
  have H := Lib.hid h
  clear h
  go_enter Try.func7, Try.ntmps7
  go_wp2_with fail
  refine (alive_any _).mono ?_
  rintro e w0 ⟨rfl, hB0⟩
  have hz0 := hB0.size
  go_wp2_with fail
  refine (length_no _ _ H.out _).mono ?_
  rintro e w1 ⟨rfl, hb1⟩
  have hB1 := hB0.trans (hb1.mono hz0)
  have hz1 := hB1.size
  go_wp2_with fail
  refine (airF_no _ _ (fun hh => by have := H.out; omega) _).mono ?_
  rintro e w2 ⟨rfl, hb2⟩
  have hB2 := hB1.trans (hb2.mono hz1)
  have hz2 := hB2.size
  go_wp2
  go_ret
  exact ⟨rfl, hB2⟩
set_option maxHeartbeats 800000 in
theorem walk_late (i t n : Int) (h0 : 0 ≤ i) (h1 : i < 12) (ht : t < rAir i 0) (w : World) :
    Calls Try.prog 7 #[.int .i64 i, .int .i64 t, .int .i64 n] w fun e w' => e = .returned (.bool true) ∧ Below w.heap.size w w' := by
  by_cases hn : 0 ≤ n ∧ n ≤ 65535
  · have hm := rAir_mono i 0 n h0 h1 hn.1
    obtain ⟨n0, n1⟩ := hn
    have d1 : decide (t < rAir i n) = true := by simp; omega
    go_enter Try.func7, Try.ntmps7
    go_wp2_with fail
    refine (alive_any _).mono ?_
    rintro e w0 ⟨rfl, hB0⟩
    have hz0 := hB0.size
    go_wp2_with fail
    refine (length_late _ _ h0 h1 ht _).mono ?_
    rintro e w1 ⟨rfl, hb1⟩
    have hB1 := hB0.trans (hb1.mono hz0)
    have hz1 := hB1.size
    go_wp2_with fail
    refine (airF_yes _ _ (by omega) (by omega) (by omega) (by omega) _).mono ?_
    rintro e w2 ⟨rfl, hb2⟩
    have hB2 := hB1.trans (hb2.mono hz1)
    have hz2 := hB2.size
    go_wp2
    go_ret
    exact ⟨rfl, hB2⟩
  · have H := Lib.hid hn
    clear hn
    go_enter Try.func7, Try.ntmps7
    go_wp2_with fail
    refine (alive_any _).mono ?_
    rintro e w0 ⟨rfl, hB0⟩
    have hz0 := hB0.size
    go_wp2_with fail
    refine (length_late _ _ h0 h1 ht _).mono ?_
    rintro e w1 ⟨rfl, hb1⟩
    have hB1 := hB0.trans (hb1.mono hz0)
    have hz1 := hB1.size
    go_wp2_with fail
    refine (airF_no _ _ (fun hh => H.out hh.2) _).mono ?_
    rintro e w2 ⟨rfl, hb2⟩
    have hB2 := hB1.trans (hb2.mono hz1)
    have hz2 := hB2.size
    go_wp2
    go_ret
    exact ⟨rfl, hB2⟩
/-- What the law says of a valid number of bytes. -/
theorem fits_iff (i t n m : Int) (h0 : 0 ≤ i) (h1 : i < 12) (h : Fits i t m) (n1 : n ≤ 65535) : (rAir i n ≤ t ∧ n ≤ m) ∨ (t < rAir i n ∧ m < n) := by
  by_cases g : n ≤ m
  · have := rAir_mono i n m h0 h1 g
    have := h.fits
    exact .inl ⟨by omega, g⟩
  · exact .inr ⟨h.most n (by omega) n1, by omega⟩
set_option maxHeartbeats 1600000 in
theorem walk_yes (i t n : Int) (h0 : 0 ≤ i) (h1 : i < 12) (ht : rAir i 0 ≤ t) (w : World) :
    Calls Try.prog 7 #[.int .i64 i, .int .i64 t, .int .i64 n] w fun e w' => e = .returned (.bool true) ∧ Below w.heap.size w w' := by
  go_enter Try.func7, Try.ntmps7
  go_wp2_with fail
  refine (alive_any _).mono ?_
  rintro e w0 ⟨rfl, hB0⟩
  have hz0 := hB0.size
  go_wp2_with fail
  refine (length_yes _ _ h0 h1 ht _).mono ?_
  rintro e w1 ⟨⟨m, hf, rfl⟩, hb1⟩
  have hB1 := hB0.trans (hb1.mono hz0)
  have hz1 := hB1.size
  have m0 := hf.low
  have m1 := hf.high
  have m2 := hf.fits
  have m3 : m = 65535 ∨ (m < 65535 ∧ t < rAir i (m + 1)) := by
    by_cases g : m < 65535
    · exact .inr ⟨g, hf.most _ (by omega) (by omega)⟩
    · exact .inl (by omega)
  have F := Lib.hid hf
  clear hf
  by_cases hn : 0 ≤ n ∧ n ≤ 65535
  · have k := fits_iff i t n m h0 h1 F.out hn.2
    obtain ⟨n0, n1⟩ := hn
    rcases m3 with m3 | ⟨m3, m4⟩ <;> rcases k with ⟨k1, k2⟩ | ⟨k1, k2⟩
    · have d1 : decide (rAir i n ≤ t) = true := by simp; omega
      have d2 : decide (n ≤ m) = true := by simp; omega
      have M := Lib.hid m3
      clear m3
      have t5 : (m != 65535) = false := by simp [M.out]
      have m5 : 65535 ≤ m := by have := M.out; omega
      go_wp2_with fail
      refine (airF_yes _ _ (by omega) (by omega) (by omega) (by omega) _).mono ?_
      rintro e w2 ⟨rfl, hb2⟩
      have hB2 := hB1.trans (hb2.mono hz1)
      have hz2 := hB2.size
      go_wp2_with fail
      refine (airF_yes _ _ (by omega) (by omega) (by omega) (by omega) _).mono ?_
      rintro e w3 ⟨rfl, hb3⟩
      have hB3 := hB2.trans (hb3.mono hz2)
      have hz3 := hB3.size
      go_wp2_with fail
      refine (airF_no _ _ (fun hh => by omega) _).mono ?_
      rintro e w4 ⟨rfl, hb4⟩
      have hB4 := hB3.trans (hb4.mono hz3)
      have hz4 := hB4.size
      go_wp2
      go_ret
      exact ⟨rfl, hB4⟩
    · exfalso
      omega
    · have d1 : decide (rAir i n ≤ t) = true := by simp; omega
      have d2 : decide (n ≤ m) = true := by simp; omega
      skip
      go_wp2_with fail
      refine (airF_yes _ _ (by omega) (by omega) (by omega) (by omega) _).mono ?_
      rintro e w2 ⟨rfl, hb2⟩
      have hB2 := hB1.trans (hb2.mono hz1)
      have hz2 := hB2.size
      go_wp2_with fail
      refine (airF_yes _ _ (by omega) (by omega) (by omega) (by omega) _).mono ?_
      rintro e w3 ⟨rfl, hb3⟩
      have hB3 := hB2.trans (hb3.mono hz2)
      have hz3 := hB3.size
      go_wp2_with fail
      refine (airF_yes _ _ (by omega) (by omega) (by omega) (by omega) _).mono ?_
      rintro e w4 ⟨rfl, hb4⟩
      have hB4 := hB3.trans (hb4.mono hz3)
      have hz4 := hB4.size
      go_wp2
      go_ret
      exact ⟨rfl, hB4⟩
    · have d1 : decide (rAir i n ≤ t) = false := by simp; omega
      have d2 : decide (n ≤ m) = false := by simp; omega
      skip
      go_wp2_with fail
      refine (airF_yes _ _ (by omega) (by omega) (by omega) (by omega) _).mono ?_
      rintro e w2 ⟨rfl, hb2⟩
      have hB2 := hB1.trans (hb2.mono hz1)
      have hz2 := hB2.size
      go_wp2_with fail
      refine (airF_yes _ _ (by omega) (by omega) (by omega) (by omega) _).mono ?_
      rintro e w3 ⟨rfl, hb3⟩
      have hB3 := hB2.trans (hb3.mono hz2)
      have hz3 := hB3.size
      go_wp2_with fail
      refine (airF_yes _ _ (by omega) (by omega) (by omega) (by omega) _).mono ?_
      rintro e w4 ⟨rfl, hb4⟩
      have hB4 := hB3.trans (hb4.mono hz3)
      have hz4 := hB4.size
      go_wp2
      go_ret
      exact ⟨rfl, hB4⟩
  · have H := Lib.hid hn
    clear hn
    rcases m3 with m3 | ⟨m3, m4⟩
    · have M := Lib.hid m3
      clear m3
      have t5 : (m != 65535) = false := by simp [M.out]
      have m5 : 65535 ≤ m := by have := M.out; omega
      go_wp2_with fail
      refine (airF_no _ _ (fun hh => H.out hh.2) _).mono ?_
      rintro e w2 ⟨rfl, hb2⟩
      have hB2 := hB1.trans (hb2.mono hz1)
      have hz2 := hB2.size
      go_wp2_with fail
      refine (airF_yes _ _ (by omega) (by omega) (by omega) (by omega) _).mono ?_
      rintro e w3 ⟨rfl, hb3⟩
      have hB3 := hB2.trans (hb3.mono hz2)
      have hz3 := hB3.size
      go_wp2_with fail
      refine (airF_no _ _ (fun hh => by omega) _).mono ?_
      rintro e w4 ⟨rfl, hb4⟩
      have hB4 := hB3.trans (hb4.mono hz3)
      have hz4 := hB4.size
      go_wp2
      go_ret
      exact ⟨rfl, hB4⟩
    · skip
      go_wp2_with fail
      refine (airF_no _ _ (fun hh => H.out hh.2) _).mono ?_
      rintro e w2 ⟨rfl, hb2⟩
      have hB2 := hB1.trans (hb2.mono hz1)
      have hz2 := hB2.size
      go_wp2_with fail
      refine (airF_yes _ _ (by omega) (by omega) (by omega) (by omega) _).mono ?_
      rintro e w3 ⟨rfl, hb3⟩
      have hB3 := hB2.trans (hb3.mono hz2)
      have hz3 := hB3.size
      go_wp2_with fail
      refine (airF_yes _ _ (by omega) (by omega) (by omega) (by omega) _).mono ?_
      rintro e w4 ⟨rfl, hb4⟩
      have hB4 := hB3.trans (hb4.mono hz3)
      have hz4 := hB4.size
      go_wp2
      go_ret
      exact ⟨rfl, hB4⟩
theorem walk (i t n : Int) (_ : -9223372036854775808 ≤ i ∧ i ≤ 9223372036854775807) (_ : -9223372036854775808 ≤ t ∧ t ≤ 9223372036854775807) (_ : -9223372036854775808 ≤ n ∧ n ≤ 9223372036854775807) (w : World) :
    Calls Try.prog 7 #[.int .i64 i, .int .i64 t, .int .i64 n] w fun e w' => e = .returned (.bool true) ∧ Below w.heap.size w w' := by
  by_cases h : 0 ≤ i ∧ i < 12
  · by_cases ht : rAir i 0 ≤ t
    · exact walk_yes i t n h.1 h.2 ht w
    · exact walk_late i t n h.1 h.2 (by omega) w
  · exact walk_bad i t n (by omega) w
end Go.Proofs.Ytpcndmpdiaceeaa.rateFits
