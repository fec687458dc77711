/-
  The walk of RateTimes: Air, Length, AckAir, RtsAir, BackAir and Total return the results and errors of the reference.
-/
import Derived.Test.YtpcndmpdiaceeaaRateRefC
namespace Go.Proofs.Ytpcndmpdiaceeaa.rateTimes
open Go.ChangeShapes Go.WideShapes Go.ChangeAt Go.RowKit

set_option maxHeartbeats 1600000 in
theorem walk_vvy (i n t : Int) (h0 : 0 ≤ i) (h1 : i < 12) (h2 : 0 ≤ n) (h3 : n ≤ 65535) (ht : rAir i 0 ≤ t) (w : World) :
    Calls Try.prog 8 #[.int .i64 i, .int .i64 n, .int .i64 t] w fun e w' => e = .returned (.bool true) ∧ Below w.heap.size w w' := by
  go_enter Try.func8, Try.ntmps8
  go_wp2_with fail
  refine (airF_yes _ _ h0 h1 h2 h3 _).mono ?_
  rintro e w0 ⟨rfl, hB0⟩
  have hz0 := hB0.size
  go_wp2_with fail
  refine (refair_yes _ _ h0 h1 h2 h3 _).mono ?_
  rintro e w1 ⟨rfl, hb1⟩
  have hB1 := hB0.trans (hb1.mono hz0)
  have hz1 := hB1.size
  go_wp2_with fail
  refine (length_yes _ _ h0 h1 ht _).mono ?_
  rintro e w2 ⟨⟨m2, hf2, rfl⟩, hb2⟩
  have hB2 := hB1.trans (hb2.mono hz1)
  have hz2 := hB2.size
  go_wp2_with fail
  refine (reflength_yes _ _ h0 h1 ht _).mono ?_
  rintro e w3 ⟨⟨m3, hf3, rfl⟩, hb3⟩
  have hB3 := hB2.trans (hb3.mono hz2)
  have hz3 := hB3.size
  obtain rfl := fits_unique hf2 hf3
  clear hf2 hf3
  go_wp2_with fail
  refine (ack_yes _ h0 h1 _).mono ?_
  rintro e w4 ⟨rfl, hb4⟩
  have hB4 := hB3.trans (hb4.mono hz3)
  have hz4 := hB4.size
  go_wp2_with fail
  refine (refreply_yes _ _ h0 h1 (by omega) (by omega) _).mono ?_
  rintro e w5 ⟨rfl, hb5⟩
  have hB5 := hB4.trans (hb5.mono hz4)
  have hz5 := hB5.size
  go_wp2_with fail
  refine (rts_yes _ h0 h1 _).mono ?_
  rintro e w6 ⟨rfl, hb6⟩
  have hB6 := hB5.trans (hb6.mono hz5)
  have hz6 := hB6.size
  go_wp2_with fail
  refine (refreply_yes _ _ h0 h1 (by omega) (by omega) _).mono ?_
  rintro e w7 ⟨rfl, hb7⟩
  have hB7 := hB6.trans (hb7.mono hz6)
  have hz7 := hB7.size
  go_wp2_with fail
  refine (back_yes _ h0 h1 _).mono ?_
  rintro e w8 ⟨rfl, hb8⟩
  have hB8 := hB7.trans (hb8.mono hz7)
  have hz8 := hB8.size
  go_wp2_with fail
  refine (refreply_yes _ _ h0 h1 (by omega) (by omega) _).mono ?_
  rintro e w9 ⟨rfl, hb9⟩
  have hB9 := hB8.trans (hb9.mono hz8)
  have hz9 := hB9.size
  go_wp2_with fail
  refine (total_yes _ _ h0 h1 h2 h3 _).mono ?_
  rintro e w10 ⟨rfl, hb10⟩
  have hB10 := hB9.trans (hb10.mono hz9)
  have hz10 := hB10.size
  go_wp2_with fail
  refine (reftotal_yes _ _ h0 h1 h2 h3 _).mono ?_
  rintro e w11 ⟨rfl, hb11⟩
  have hB11 := hB10.trans (hb11.mono hz10)
  have hz11 := hB11.size
  go_wp2
  go_ret
  exact ⟨rfl, hB11⟩
set_option maxHeartbeats 1600000 in
theorem walk_vvl (i n t : Int) (h0 : 0 ≤ i) (h1 : i < 12) (h2 : 0 ≤ n) (h3 : n ≤ 65535) (ht : t < rAir i 0) (w : World) :
    Calls Try.prog 8 #[.int .i64 i, .int .i64 n, .int .i64 t] w fun e w' => e = .returned (.bool true) ∧ Below w.heap.size w w' := by
  go_enter Try.func8, Try.ntmps8
  go_wp2_with fail
  refine (airF_yes _ _ h0 h1 h2 h3 _).mono ?_
  rintro e w0 ⟨rfl, hB0⟩
  have hz0 := hB0.size
  go_wp2_with fail
  refine (refair_yes _ _ h0 h1 h2 h3 _).mono ?_
  rintro e w1 ⟨rfl, hb1⟩
  have hB1 := hB0.trans (hb1.mono hz0)
  have hz1 := hB1.size
  go_wp2_with fail
  refine (length_late _ _ h0 h1 ht _).mono ?_
  rintro e w2 ⟨rfl, hb2⟩
  have hB2 := hB1.trans (hb2.mono hz1)
  have hz2 := hB2.size
  go_wp2_with fail
  refine (reflength_late _ _ h0 h1 ht _).mono ?_
  rintro e w3 ⟨rfl, hb3⟩
  have hB3 := hB2.trans (hb3.mono hz2)
  have hz3 := hB3.size
  go_wp2_with fail
  refine (ack_yes _ h0 h1 _).mono ?_
  rintro e w4 ⟨rfl, hb4⟩
  have hB4 := hB3.trans (hb4.mono hz3)
  have hz4 := hB4.size
  go_wp2_with fail
  refine (refreply_yes _ _ h0 h1 (by omega) (by omega) _).mono ?_
  rintro e w5 ⟨rfl, hb5⟩
  have hB5 := hB4.trans (hb5.mono hz4)
  have hz5 := hB5.size
  go_wp2_with fail
  refine (rts_yes _ h0 h1 _).mono ?_
  rintro e w6 ⟨rfl, hb6⟩
  have hB6 := hB5.trans (hb6.mono hz5)
  have hz6 := hB6.size
  go_wp2_with fail
  refine (refreply_yes _ _ h0 h1 (by omega) (by omega) _).mono ?_
  rintro e w7 ⟨rfl, hb7⟩
  have hB7 := hB6.trans (hb7.mono hz6)
  have hz7 := hB7.size
  go_wp2_with fail
  refine (back_yes _ h0 h1 _).mono ?_
  rintro e w8 ⟨rfl, hb8⟩
  have hB8 := hB7.trans (hb8.mono hz7)
  have hz8 := hB8.size
  go_wp2_with fail
  refine (refreply_yes _ _ h0 h1 (by omega) (by omega) _).mono ?_
  rintro e w9 ⟨rfl, hb9⟩
  have hB9 := hB8.trans (hb9.mono hz8)
  have hz9 := hB9.size
  go_wp2_with fail
  refine (total_yes _ _ h0 h1 h2 h3 _).mono ?_
  rintro e w10 ⟨rfl, hb10⟩
  have hB10 := hB9.trans (hb10.mono hz9)
  have hz10 := hB10.size
  go_wp2_with fail
  refine (reftotal_yes _ _ h0 h1 h2 h3 _).mono ?_
  rintro e w11 ⟨rfl, hb11⟩
  have hB11 := hB10.trans (hb11.mono hz10)
  have hz11 := hB11.size
  go_wp2
  go_ret
  exact ⟨rfl, hB11⟩
set_option maxHeartbeats 1600000 in
theorem walk_vby (i n t : Int) (h0 : 0 ≤ i) (h1 : i < 12) (hb : ¬ (0 ≤ n ∧ n ≤ 65535)) (ht : rAir i 0 ≤ t) (w : World) :
    Calls Try.prog 8 #[.int .i64 i, .int .i64 n, .int .i64 t] w fun e w' => e = .returned (.bool true) ∧ Below w.heap.size w w' := by
  have H := Lib.hid hb
  clear hb
  go_enter Try.func8, Try.ntmps8
  go_wp2_with fail
  refine (airF_no _ _ (fun h => H.out h.2) _).mono ?_
  rintro e w0 ⟨rfl, hB0⟩
  have hz0 := hB0.size
  go_wp2_with fail
  refine (refair_no _ _ (fun h => H.out h.2) _).mono ?_
  rintro e w1 ⟨rfl, hb1⟩
  have hB1 := hB0.trans (hb1.mono hz0)
  have hz1 := hB1.size
  go_wp2_with fail
  refine (length_yes _ _ h0 h1 ht _).mono ?_
  rintro e w2 ⟨⟨m2, hf2, rfl⟩, hb2⟩
  have hB2 := hB1.trans (hb2.mono hz1)
  have hz2 := hB2.size
  go_wp2_with fail
  refine (reflength_yes _ _ h0 h1 ht _).mono ?_
  rintro e w3 ⟨⟨m3, hf3, rfl⟩, hb3⟩
  have hB3 := hB2.trans (hb3.mono hz2)
  have hz3 := hB3.size
  obtain rfl := fits_unique hf2 hf3
  clear hf2 hf3
  go_wp2_with fail
  refine (ack_yes _ h0 h1 _).mono ?_
  rintro e w4 ⟨rfl, hb4⟩
  have hB4 := hB3.trans (hb4.mono hz3)
  have hz4 := hB4.size
  go_wp2_with fail
  refine (refreply_yes _ _ h0 h1 (by omega) (by omega) _).mono ?_
  rintro e w5 ⟨rfl, hb5⟩
  have hB5 := hB4.trans (hb5.mono hz4)
  have hz5 := hB5.size
  go_wp2_with fail
  refine (rts_yes _ h0 h1 _).mono ?_
  rintro e w6 ⟨rfl, hb6⟩
  have hB6 := hB5.trans (hb6.mono hz5)
  have hz6 := hB6.size
  go_wp2_with fail
  refine (refreply_yes _ _ h0 h1 (by omega) (by omega) _).mono ?_
  rintro e w7 ⟨rfl, hb7⟩
  have hB7 := hB6.trans (hb7.mono hz6)
  have hz7 := hB7.size
  go_wp2_with fail
  refine (back_yes _ h0 h1 _).mono ?_
  rintro e w8 ⟨rfl, hb8⟩
  have hB8 := hB7.trans (hb8.mono hz7)
  have hz8 := hB8.size
  go_wp2_with fail
  refine (refreply_yes _ _ h0 h1 (by omega) (by omega) _).mono ?_
  rintro e w9 ⟨rfl, hb9⟩
  have hB9 := hB8.trans (hb9.mono hz8)
  have hz9 := hB9.size
  go_wp2_with fail
  refine (total_no _ _ (fun h => H.out h.2) _).mono ?_
  rintro e w10 ⟨rfl, hb10⟩
  have hB10 := hB9.trans (hb10.mono hz9)
  have hz10 := hB10.size
  go_wp2_with fail
  refine (reftotal_no _ _ (fun h => H.out h.2) _).mono ?_
  rintro e w11 ⟨rfl, hb11⟩
  have hB11 := hB10.trans (hb11.mono hz10)
  have hz11 := hB11.size
  go_wp2
  go_ret
  exact ⟨rfl, hB11⟩
set_option maxHeartbeats 1600000 in
theorem walk_vbl (i n t : Int) (h0 : 0 ≤ i) (h1 : i < 12) (hb : ¬ (0 ≤ n ∧ n ≤ 65535)) (ht : t < rAir i 0) (w : World) :
    Calls Try.prog 8 #[.int .i64 i, .int .i64 n, .int .i64 t] w fun e w' => e = .returned (.bool true) ∧ Below w.heap.size w w' := by
  have H := Lib.hid hb
  clear hb
  go_enter Try.func8, Try.ntmps8
  go_wp2_with fail
  refine (airF_no _ _ (fun h => H.out h.2) _).mono ?_
  rintro e w0 ⟨rfl, hB0⟩
  have hz0 := hB0.size
  go_wp2_with fail
  refine (refair_no _ _ (fun h => H.out h.2) _).mono ?_
  rintro e w1 ⟨rfl, hb1⟩
  have hB1 := hB0.trans (hb1.mono hz0)
  have hz1 := hB1.size
  go_wp2_with fail
  refine (length_late _ _ h0 h1 ht _).mono ?_
  rintro e w2 ⟨rfl, hb2⟩
  have hB2 := hB1.trans (hb2.mono hz1)
  have hz2 := hB2.size
  go_wp2_with fail
  refine (reflength_late _ _ h0 h1 ht _).mono ?_
  rintro e w3 ⟨rfl, hb3⟩
  have hB3 := hB2.trans (hb3.mono hz2)
  have hz3 := hB3.size
  go_wp2_with fail
  refine (ack_yes _ h0 h1 _).mono ?_
  rintro e w4 ⟨rfl, hb4⟩
  have hB4 := hB3.trans (hb4.mono hz3)
  have hz4 := hB4.size
  go_wp2_with fail
  refine (refreply_yes _ _ h0 h1 (by omega) (by omega) _).mono ?_
  rintro e w5 ⟨rfl, hb5⟩
  have hB5 := hB4.trans (hb5.mono hz4)
  have hz5 := hB5.size
  go_wp2_with fail
  refine (rts_yes _ h0 h1 _).mono ?_
  rintro e w6 ⟨rfl, hb6⟩
  have hB6 := hB5.trans (hb6.mono hz5)
  have hz6 := hB6.size
  go_wp2_with fail
  refine (refreply_yes _ _ h0 h1 (by omega) (by omega) _).mono ?_
  rintro e w7 ⟨rfl, hb7⟩
  have hB7 := hB6.trans (hb7.mono hz6)
  have hz7 := hB7.size
  go_wp2_with fail
  refine (back_yes _ h0 h1 _).mono ?_
  rintro e w8 ⟨rfl, hb8⟩
  have hB8 := hB7.trans (hb8.mono hz7)
  have hz8 := hB8.size
  go_wp2_with fail
  refine (refreply_yes _ _ h0 h1 (by omega) (by omega) _).mono ?_
  rintro e w9 ⟨rfl, hb9⟩
  have hB9 := hB8.trans (hb9.mono hz8)
  have hz9 := hB9.size
  go_wp2_with fail
  refine (total_no _ _ (fun h => H.out h.2) _).mono ?_
  rintro e w10 ⟨rfl, hb10⟩
  have hB10 := hB9.trans (hb10.mono hz9)
  have hz10 := hB10.size
  go_wp2_with fail
  refine (reftotal_no _ _ (fun h => H.out h.2) _).mono ?_
  rintro e w11 ⟨rfl, hb11⟩
  have hB11 := hB10.trans (hb11.mono hz10)
  have hz11 := hB11.size
  go_wp2
  go_ret
  exact ⟨rfl, hB11⟩
set_option maxHeartbeats 1600000 in
theorem walk_b (i n t : Int) (h : i < 0 ∨ 12 ≤ i) (w : World) :
    Calls Try.prog 8 #[.int .i64 i, .int .i64 n, .int .i64 t] w fun e w' => e = .returned (.bool true) ∧ Below w.heap.size w w' := by
  have H := Lib.hid h
  clear h
  go_enter Try.func8, Try.ntmps8
  go_wp2_with fail
  refine (airF_no _ _ (fun h => by have := H.out; omega) _).mono ?_
  rintro e w0 ⟨rfl, hB0⟩
  have hz0 := hB0.size
  go_wp2_with fail
  refine (refair_no _ _ (fun h => by have := H.out; omega) _).mono ?_
  rintro e w1 ⟨rfl, hb1⟩
  have hB1 := hB0.trans (hb1.mono hz0)
  have hz1 := hB1.size
  go_wp2_with fail
  refine (length_no _ _ H.out _).mono ?_
  rintro e w2 ⟨rfl, hb2⟩
  have hB2 := hB1.trans (hb2.mono hz1)
  have hz2 := hB2.size
  go_wp2_with fail
  refine (reflength_no _ _ H.out _).mono ?_
  rintro e w3 ⟨rfl, hb3⟩
  have hB3 := hB2.trans (hb3.mono hz2)
  have hz3 := hB3.size
  go_wp2_with fail
  refine (ack_no _ H.out _).mono ?_
  rintro e w4 ⟨rfl, hb4⟩
  have hB4 := hB3.trans (hb4.mono hz3)
  have hz4 := hB4.size
  go_wp2_with fail
  refine (refreply_no _ _ H.out _).mono ?_
  rintro e w5 ⟨rfl, hb5⟩
  have hB5 := hB4.trans (hb5.mono hz4)
  have hz5 := hB5.size
  go_wp2_with fail
  refine (rts_no _ H.out _).mono ?_
  rintro e w6 ⟨rfl, hb6⟩
  have hB6 := hB5.trans (hb6.mono hz5)
  have hz6 := hB6.size
  go_wp2_with fail
  refine (refreply_no _ _ H.out _).mono ?_
  rintro e w7 ⟨rfl, hb7⟩
  have hB7 := hB6.trans (hb7.mono hz6)
  have hz7 := hB7.size
  go_wp2_with fail
  refine (back_no _ H.out _).mono ?_
  rintro e w8 ⟨rfl, hb8⟩
  have hB8 := hB7.trans (hb8.mono hz7)
  have hz8 := hB8.size
  go_wp2_with fail
  refine (refreply_no _ _ H.out _).mono ?_
  rintro e w9 ⟨rfl, hb9⟩
  have hB9 := hB8.trans (hb9.mono hz8)
  have hz9 := hB9.size
  go_wp2_with fail
  refine (total_no _ _ (fun h => by have := H.out; omega) _).mono ?_
  rintro e w10 ⟨rfl, hb10⟩
  have hB10 := hB9.trans (hb10.mono hz9)
  have hz10 := hB10.size
  go_wp2_with fail
  refine (reftotal_no _ _ (fun h => by have := H.out; omega) _).mono ?_
  rintro e w11 ⟨rfl, hb11⟩
  have hB11 := hB10.trans (hb11.mono hz10)
  have hz11 := hB11.size
  go_wp2
  go_ret
  exact ⟨rfl, hB11⟩
theorem walk (i n t : Int) (_ : -9223372036854775808 ≤ i ∧ i ≤ 9223372036854775807) (_ : -9223372036854775808 ≤ n ∧ n ≤ 9223372036854775807) (_ : -9223372036854775808 ≤ t ∧ t ≤ 9223372036854775807) (w : World) :
    Calls Try.prog 8 #[.int .i64 i, .int .i64 n, .int .i64 t] w fun e w' => e = .returned (.bool true) ∧ Below w.heap.size w w' := by
  by_cases h : 0 ≤ i ∧ i < 12
  · by_cases hb : 0 ≤ n ∧ n ≤ 65535
    · by_cases ht : rAir i 0 ≤ t
      · exact walk_vvy i n t h.1 h.2 hb.1 hb.2 ht w
      · exact walk_vvl i n t h.1 h.2 hb.1 hb.2 (by omega) w
    · by_cases ht : rAir i 0 ≤ t
      · exact walk_vby i n t h.1 h.2 hb ht w
      · exact walk_vbl i n t h.1 h.2 hb (by omega) w
  · exact walk_b i n t (by omega) w
end Go.Proofs.Ytpcndmpdiaceeaa.rateTimes
