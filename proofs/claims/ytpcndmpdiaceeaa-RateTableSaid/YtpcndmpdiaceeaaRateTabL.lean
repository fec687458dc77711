/-
  The walk of RateTable: Count, Get, Best and Response return the results and errors of the reference.
-/
import Derived.Test.YtpcndmpdiaceeaaRateRefC
namespace Go.Proofs.Ytpcndmpdiaceeaa.rateTable
open Go.ChangeShapes Go.WideShapes Go.ChangeAt Go.RowKit

set_option maxHeartbeats 1600000 in
theorem walk_yes (i l : Int) (h0 : 0 ≤ i) (h1 : i < 12) (w : World) :
    Calls Try.prog 3 #[.int .i64 i, .int .i64 l] w fun e w' => e = .returned (.bool true) ∧ Below w.heap.size w w' := by
  go_enter Try.func3, Try.ntmps3
  go_wp2_with fail
  refine (get_yes _ h0 h1 _).mono ?_
  rintro e w0 ⟨rfl, hB0⟩
  have hz0 := hB0.size
  go_wp2_with fail
  refine (refget_yes _ h0 h1 _).mono ?_
  rintro e w1 ⟨rfl, hb1⟩
  have hB1 := (hB0.alloc hz0 _).trans (hb1.mono (by simp only [World.size_alloc]; omega))
  have hz1 := hB1.size
  have hz1' := hb1.size
  simp only [World.size_alloc] at hz1'
  have a01 : w1.cell? ⟨w0.heap.size, 0, none⟩ = some (.int .i64 (rBits i)) := (hb1.cell (p := ⟨w0.heap.size, 0, none⟩) (by simp)).trans (by simp)
  have a11 : w1.cell? ⟨w0.heap.size, 1, none⟩ = some (.int .i64 (rNeed i)) := (hb1.cell (p := ⟨w0.heap.size, 1, none⟩) (by simp)).trans (by simp)
  have a21 : w1.cell? ⟨w0.heap.size, 2, none⟩ = some (.bool (rBasic i)) := (hb1.cell (p := ⟨w0.heap.size, 2, none⟩) (by simp)).trans (by simp)
  go_wp2_with fail
  refine (best_any _ _).mono ?_
  rintro e w2 ⟨rfl, hb2⟩
  have hB2 := (hB1.alloc hz1 _).trans (hb2.mono (by simp only [World.size_alloc]; omega))
  have hz2 := hB2.size
  have hz2' := hb2.size
  simp only [World.size_alloc] at hz2'
  have a02 : w2.cell? ⟨w0.heap.size, 0, none⟩ = some (.int .i64 (rBits i)) := (hb2.cell (p := ⟨w0.heap.size, 0, none⟩) (by simp only [World.size_alloc]; omega)).trans ((World.cell?_alloc_lt _ _ _ (by show w0.heap.size < w1.heap.size; omega)).trans a01)
  have b02 : w2.cell? ⟨w1.heap.size, 0, none⟩ = some (.int .i64 (rBits i)) := (hb2.cell (p := ⟨w1.heap.size, 0, none⟩) (by simp)).trans (by simp)
  have a12 : w2.cell? ⟨w0.heap.size, 1, none⟩ = some (.int .i64 (rNeed i)) := (hb2.cell (p := ⟨w0.heap.size, 1, none⟩) (by simp only [World.size_alloc]; omega)).trans ((World.cell?_alloc_lt _ _ _ (by show w0.heap.size < w1.heap.size; omega)).trans a11)
  have b12 : w2.cell? ⟨w1.heap.size, 1, none⟩ = some (.int .i64 (rNeed i)) := (hb2.cell (p := ⟨w1.heap.size, 1, none⟩) (by simp)).trans (by simp)
  have a22 : w2.cell? ⟨w0.heap.size, 2, none⟩ = some (.bool (rBasic i)) := (hb2.cell (p := ⟨w0.heap.size, 2, none⟩) (by simp only [World.size_alloc]; omega)).trans ((World.cell?_alloc_lt _ _ _ (by show w0.heap.size < w1.heap.size; omega)).trans a21)
  have b22 : w2.cell? ⟨w1.heap.size, 2, none⟩ = some (.bool (rBasic i)) := (hb2.cell (p := ⟨w1.heap.size, 2, none⟩) (by simp)).trans (by simp)
  go_wp2_with fail
  refine (refbest_any _ _).mono ?_
  rintro e w3 ⟨rfl, hb3⟩
  have hB3 := hB2.trans (hb3.mono hz2)
  have hz3 := hB3.size
  have hz3' := hb3.size
  have a03 := (hb3.cell (p := ⟨w0.heap.size, 0, none⟩) (by show w0.heap.size < w2.heap.size; omega)).trans a02
  have b03 := (hb3.cell (p := ⟨w1.heap.size, 0, none⟩) (by show w1.heap.size < w2.heap.size; omega)).trans b02
  have a13 := (hb3.cell (p := ⟨w0.heap.size, 1, none⟩) (by show w0.heap.size < w2.heap.size; omega)).trans a12
  have b13 := (hb3.cell (p := ⟨w1.heap.size, 1, none⟩) (by show w1.heap.size < w2.heap.size; omega)).trans b12
  have a23 := (hb3.cell (p := ⟨w0.heap.size, 2, none⟩) (by show w0.heap.size < w2.heap.size; omega)).trans a22
  have b23 := (hb3.cell (p := ⟨w1.heap.size, 2, none⟩) (by show w1.heap.size < w2.heap.size; omega)).trans b22
  go_wp2_with fail
  refine (response_yes _ h0 h1 _).mono ?_
  rintro e w4 ⟨rfl, hb4⟩
  have hB4 := hB3.trans (hb4.mono hz3)
  have hz4 := hB4.size
  have hz4' := hb4.size
  have a04 := (hb4.cell (p := ⟨w0.heap.size, 0, none⟩) (by show w0.heap.size < w3.heap.size; omega)).trans a03
  have b04 := (hb4.cell (p := ⟨w1.heap.size, 0, none⟩) (by show w1.heap.size < w3.heap.size; omega)).trans b03
  have a14 := (hb4.cell (p := ⟨w0.heap.size, 1, none⟩) (by show w0.heap.size < w3.heap.size; omega)).trans a13
  have b14 := (hb4.cell (p := ⟨w1.heap.size, 1, none⟩) (by show w1.heap.size < w3.heap.size; omega)).trans b13
  have a24 := (hb4.cell (p := ⟨w0.heap.size, 2, none⟩) (by show w0.heap.size < w3.heap.size; omega)).trans a23
  have b24 := (hb4.cell (p := ⟨w1.heap.size, 2, none⟩) (by show w1.heap.size < w3.heap.size; omega)).trans b23
  go_wp2_with fail
  refine (refresponse_yes _ h0 h1 _).mono ?_
  rintro e w5 ⟨rfl, hb5⟩
  have hB5 := hB4.trans (hb5.mono hz4)
  have hz5 := hB5.size
  have hz5' := hb5.size
  have a05 := (hb5.cell (p := ⟨w0.heap.size, 0, none⟩) (by show w0.heap.size < w4.heap.size; omega)).trans a04
  have b05 := (hb5.cell (p := ⟨w1.heap.size, 0, none⟩) (by show w1.heap.size < w4.heap.size; omega)).trans b04
  have a15 := (hb5.cell (p := ⟨w0.heap.size, 1, none⟩) (by show w0.heap.size < w4.heap.size; omega)).trans a14
  have b15 := (hb5.cell (p := ⟨w1.heap.size, 1, none⟩) (by show w1.heap.size < w4.heap.size; omega)).trans b14
  have a25 := (hb5.cell (p := ⟨w0.heap.size, 2, none⟩) (by show w0.heap.size < w4.heap.size; omega)).trans a24
  have b25 := (hb5.cell (p := ⟨w1.heap.size, 2, none⟩) (by show w1.heap.size < w4.heap.size; omega)).trans b24
  go_wp2_with fail
  refine (count_any _).mono ?_
  rintro e w6 ⟨rfl, hb6⟩
  have hB6 := hB5.trans (hb6.mono hz5)
  have hz6 := hB6.size
  have hz6' := hb6.size
  have a06 := (hb6.cell (p := ⟨w0.heap.size, 0, none⟩) (by show w0.heap.size < w5.heap.size; omega)).trans a05
  have b06 := (hb6.cell (p := ⟨w1.heap.size, 0, none⟩) (by show w1.heap.size < w5.heap.size; omega)).trans b05
  have a16 := (hb6.cell (p := ⟨w0.heap.size, 1, none⟩) (by show w0.heap.size < w5.heap.size; omega)).trans a15
  have b16 := (hb6.cell (p := ⟨w1.heap.size, 1, none⟩) (by show w1.heap.size < w5.heap.size; omega)).trans b15
  have a26 := (hb6.cell (p := ⟨w0.heap.size, 2, none⟩) (by show w0.heap.size < w5.heap.size; omega)).trans a25
  have b26 := (hb6.cell (p := ⟨w1.heap.size, 2, none⟩) (by show w1.heap.size < w5.heap.size; omega)).trans b25
  go_wp2_with fail
  refine (reftab _).mono ?_
  rintro e w7 ⟨g, cap, rfl, hg, hg2, hT, hb7⟩
  clear hT
  have hB7 := hB6.trans (hb7.mono hz6)
  have a07 := (hb7.cell (p := ⟨w0.heap.size, 0, none⟩) (by show w0.heap.size < w6.heap.size; omega)).trans a06
  have b07 := (hb7.cell (p := ⟨w1.heap.size, 0, none⟩) (by show w1.heap.size < w6.heap.size; omega)).trans b06
  have a17 := (hb7.cell (p := ⟨w0.heap.size, 1, none⟩) (by show w0.heap.size < w6.heap.size; omega)).trans a16
  have b17 := (hb7.cell (p := ⟨w1.heap.size, 1, none⟩) (by show w1.heap.size < w6.heap.size; omega)).trans b16
  have a27 := (hb7.cell (p := ⟨w0.heap.size, 2, none⟩) (by show w0.heap.size < w6.heap.size; omega)).trans a26
  have b27 := (hb7.cell (p := ⟨w1.heap.size, 2, none⟩) (by show w1.heap.size < w6.heap.size; omega)).trans b26
  go_wp2
  go_ret
  exact ⟨rfl, hB7⟩
set_option maxHeartbeats 1600000 in
theorem walk_no (i l : Int) (h : i < 0 ∨ 12 ≤ i) (w : World) :
    Calls Try.prog 3 #[.int .i64 i, .int .i64 l] w fun e w' => e = .returned (.bool true) ∧ Below w.heap.size w w' := by
  have H := Lib.hid h
  clear h
  go_enter Try.func3, Try.ntmps3
  go_wp2_with fail
  refine (get_no _ H.out _).mono ?_
  rintro e w0 ⟨rfl, hB0⟩
  have hz0 := hB0.size
  go_wp2_with fail
  refine (refget_no _ H.out _).mono ?_
  rintro e w1 ⟨rfl, hb1⟩
  have hB1 := (hB0.alloc hz0 _).trans (hb1.mono (by simp only [World.size_alloc]; omega))
  have hz1 := hB1.size
  have hz1' := hb1.size
  simp only [World.size_alloc] at hz1'
  have a01 : w1.cell? ⟨w0.heap.size, 0, none⟩ = some (.int .i64 0) := (hb1.cell (p := ⟨w0.heap.size, 0, none⟩) (by simp)).trans (by simp)
  have a11 : w1.cell? ⟨w0.heap.size, 1, none⟩ = some (.int .i64 0) := (hb1.cell (p := ⟨w0.heap.size, 1, none⟩) (by simp)).trans (by simp)
  have a21 : w1.cell? ⟨w0.heap.size, 2, none⟩ = some (.bool false) := (hb1.cell (p := ⟨w0.heap.size, 2, none⟩) (by simp)).trans (by simp)
  go_wp2_with fail
  refine (best_any _ _).mono ?_
  rintro e w2 ⟨rfl, hb2⟩
  have hB2 := (hB1.alloc hz1 _).trans (hb2.mono (by simp only [World.size_alloc]; omega))
  have hz2 := hB2.size
  have hz2' := hb2.size
  simp only [World.size_alloc] at hz2'
  have a02 : w2.cell? ⟨w0.heap.size, 0, none⟩ = some (.int .i64 0) := (hb2.cell (p := ⟨w0.heap.size, 0, none⟩) (by simp only [World.size_alloc]; omega)).trans ((World.cell?_alloc_lt _ _ _ (by show w0.heap.size < w1.heap.size; omega)).trans a01)
  have b02 : w2.cell? ⟨w1.heap.size, 0, none⟩ = some (.int .i64 0) := (hb2.cell (p := ⟨w1.heap.size, 0, none⟩) (by simp)).trans (by simp)
  have a12 : w2.cell? ⟨w0.heap.size, 1, none⟩ = some (.int .i64 0) := (hb2.cell (p := ⟨w0.heap.size, 1, none⟩) (by simp only [World.size_alloc]; omega)).trans ((World.cell?_alloc_lt _ _ _ (by show w0.heap.size < w1.heap.size; omega)).trans a11)
  have b12 : w2.cell? ⟨w1.heap.size, 1, none⟩ = some (.int .i64 0) := (hb2.cell (p := ⟨w1.heap.size, 1, none⟩) (by simp)).trans (by simp)
  have a22 : w2.cell? ⟨w0.heap.size, 2, none⟩ = some (.bool false) := (hb2.cell (p := ⟨w0.heap.size, 2, none⟩) (by simp only [World.size_alloc]; omega)).trans ((World.cell?_alloc_lt _ _ _ (by show w0.heap.size < w1.heap.size; omega)).trans a21)
  have b22 : w2.cell? ⟨w1.heap.size, 2, none⟩ = some (.bool false) := (hb2.cell (p := ⟨w1.heap.size, 2, none⟩) (by simp)).trans (by simp)
  go_wp2_with fail
  refine (refbest_any _ _).mono ?_
  rintro e w3 ⟨rfl, hb3⟩
  have hB3 := hB2.trans (hb3.mono hz2)
  have hz3 := hB3.size
  have hz3' := hb3.size
  have a03 := (hb3.cell (p := ⟨w0.heap.size, 0, none⟩) (by show w0.heap.size < w2.heap.size; omega)).trans a02
  have b03 := (hb3.cell (p := ⟨w1.heap.size, 0, none⟩) (by show w1.heap.size < w2.heap.size; omega)).trans b02
  have a13 := (hb3.cell (p := ⟨w0.heap.size, 1, none⟩) (by show w0.heap.size < w2.heap.size; omega)).trans a12
  have b13 := (hb3.cell (p := ⟨w1.heap.size, 1, none⟩) (by show w1.heap.size < w2.heap.size; omega)).trans b12
  have a23 := (hb3.cell (p := ⟨w0.heap.size, 2, none⟩) (by show w0.heap.size < w2.heap.size; omega)).trans a22
  have b23 := (hb3.cell (p := ⟨w1.heap.size, 2, none⟩) (by show w1.heap.size < w2.heap.size; omega)).trans b22
  go_wp2_with fail
  refine (response_no _ H.out _).mono ?_
  rintro e w4 ⟨rfl, hb4⟩
  have hB4 := hB3.trans (hb4.mono hz3)
  have hz4 := hB4.size
  have hz4' := hb4.size
  have a04 := (hb4.cell (p := ⟨w0.heap.size, 0, none⟩) (by show w0.heap.size < w3.heap.size; omega)).trans a03
  have b04 := (hb4.cell (p := ⟨w1.heap.size, 0, none⟩) (by show w1.heap.size < w3.heap.size; omega)).trans b03
  have a14 := (hb4.cell (p := ⟨w0.heap.size, 1, none⟩) (by show w0.heap.size < w3.heap.size; omega)).trans a13
  have b14 := (hb4.cell (p := ⟨w1.heap.size, 1, none⟩) (by show w1.heap.size < w3.heap.size; omega)).trans b13
  have a24 := (hb4.cell (p := ⟨w0.heap.size, 2, none⟩) (by show w0.heap.size < w3.heap.size; omega)).trans a23
  have b24 := (hb4.cell (p := ⟨w1.heap.size, 2, none⟩) (by show w1.heap.size < w3.heap.size; omega)).trans b23
  go_wp2_with fail
  refine (refresponse_no _ H.out _).mono ?_
  rintro e w5 ⟨rfl, hb5⟩
  have hB5 := hB4.trans (hb5.mono hz4)
  have hz5 := hB5.size
  have hz5' := hb5.size
  have a05 := (hb5.cell (p := ⟨w0.heap.size, 0, none⟩) (by show w0.heap.size < w4.heap.size; omega)).trans a04
  have b05 := (hb5.cell (p := ⟨w1.heap.size, 0, none⟩) (by show w1.heap.size < w4.heap.size; omega)).trans b04
  have a15 := (hb5.cell (p := ⟨w0.heap.size, 1, none⟩) (by show w0.heap.size < w4.heap.size; omega)).trans a14
  have b15 := (hb5.cell (p := ⟨w1.heap.size, 1, none⟩) (by show w1.heap.size < w4.heap.size; omega)).trans b14
  have a25 := (hb5.cell (p := ⟨w0.heap.size, 2, none⟩) (by show w0.heap.size < w4.heap.size; omega)).trans a24
  have b25 := (hb5.cell (p := ⟨w1.heap.size, 2, none⟩) (by show w1.heap.size < w4.heap.size; omega)).trans b24
  go_wp2_with fail
  refine (count_any _).mono ?_
  rintro e w6 ⟨rfl, hb6⟩
  have hB6 := hB5.trans (hb6.mono hz5)
  have hz6 := hB6.size
  have hz6' := hb6.size
  have a06 := (hb6.cell (p := ⟨w0.heap.size, 0, none⟩) (by show w0.heap.size < w5.heap.size; omega)).trans a05
  have b06 := (hb6.cell (p := ⟨w1.heap.size, 0, none⟩) (by show w1.heap.size < w5.heap.size; omega)).trans b05
  have a16 := (hb6.cell (p := ⟨w0.heap.size, 1, none⟩) (by show w0.heap.size < w5.heap.size; omega)).trans a15
  have b16 := (hb6.cell (p := ⟨w1.heap.size, 1, none⟩) (by show w1.heap.size < w5.heap.size; omega)).trans b15
  have a26 := (hb6.cell (p := ⟨w0.heap.size, 2, none⟩) (by show w0.heap.size < w5.heap.size; omega)).trans a25
  have b26 := (hb6.cell (p := ⟨w1.heap.size, 2, none⟩) (by show w1.heap.size < w5.heap.size; omega)).trans b25
  go_wp2_with fail
  refine (reftab _).mono ?_
  rintro e w7 ⟨g, cap, rfl, hg, hg2, hT, hb7⟩
  clear hT
  have hB7 := hB6.trans (hb7.mono hz6)
  have a07 := (hb7.cell (p := ⟨w0.heap.size, 0, none⟩) (by show w0.heap.size < w6.heap.size; omega)).trans a06
  have b07 := (hb7.cell (p := ⟨w1.heap.size, 0, none⟩) (by show w1.heap.size < w6.heap.size; omega)).trans b06
  have a17 := (hb7.cell (p := ⟨w0.heap.size, 1, none⟩) (by show w0.heap.size < w6.heap.size; omega)).trans a16
  have b17 := (hb7.cell (p := ⟨w1.heap.size, 1, none⟩) (by show w1.heap.size < w6.heap.size; omega)).trans b16
  have a27 := (hb7.cell (p := ⟨w0.heap.size, 2, none⟩) (by show w0.heap.size < w6.heap.size; omega)).trans a26
  have b27 := (hb7.cell (p := ⟨w1.heap.size, 2, none⟩) (by show w1.heap.size < w6.heap.size; omega)).trans b26
  go_wp2
  go_ret
  exact ⟨rfl, hB7⟩
theorem walk (i l : Int) (_ : -9223372036854775808 ≤ i ∧ i ≤ 9223372036854775807) (_ : -9223372036854775808 ≤ l ∧ l ≤ 9223372036854775807) (w : World) :
    Calls Try.prog 3 #[.int .i64 i, .int .i64 l] w fun e w' => e = .returned (.bool true) ∧ Below w.heap.size w w' := by
  by_cases h : 0 ≤ i ∧ i < 12
  · exact walk_yes i l h.1 h.2 w
  · exact walk_no i l (by omega) w
end Go.Proofs.Ytpcndmpdiaceeaa.rateTable
