/-
  The walk of RateNames: the chapter's examples, the limits, and further cases.
-/
import Derived.Test.YtpcndmpdiaceeaaRateAlive
namespace Go.Proofs.Ytpcndmpdiaceeaa.rateNames
open Go.ChangeShapes Go.WideShapes Go.ChangeAt Go.RowKit

theorem fits_eq (i t n m : Int) (h0 : 0 ≤ i) (h1 : i < 12) (h : Fits i t n) (h2 : rAir i m ≤ t) (h3 : m ≤ 65535) (h4 : m < 65535 → t < rAir i (m + 1)) : n = m := by
  by_cases g : n < m
  · have := h.most m g h3
    omega
  · by_cases g2 : m < n
    · have := rAir_mono i (m + 1) n h0 h1 (by omega)
      have := h.fits
      have := h4 (by have := h.high; omega)
      omega
    · omega
theorem length_is (i t m : Int) (h0 : 0 ≤ i) (h1 : i < 12) (ht : rAir i 0 ≤ t) (h2 : rAir i m ≤ t) (h3 : m ≤ 65535) (h4 : m < 65535 → t < rAir i (m + 1)) (w : World) : Calls Try.prog 24 #[.int .i64 i, .int .i64 t] w fun e w' => e = .returned (.tuple #[.int .i64 m, .int .i64 0]) ∧ Below w.heap.size w w' := by
  refine (length_yes i t h0 h1 ht w).mono ?_
  rintro e w1 ⟨⟨n, hf, rfl⟩, hb⟩
  exact ⟨fr_ret2 (fits_eq i t n m h0 h1 hf h2 h3 h4), hb⟩

set_option maxHeartbeats 1600000 in
set_option maxRecDepth 100000 in
theorem walk (w : World) :
    Calls Try.prog 9 #[] w fun e w' => e = .returned (.bool true) ∧ Below w.heap.size w w' := by
  have e1 : rBits 4 = 100 := by decide
  have e2 : rNeed 4 = -738 := by decide
  have e3 : rBasic 4 = true := by decide
  have e4 : (rBest (-821) 12).2 = false := by decide
  have e5 : (rBest (-820) 12).2 = true := by decide
  have e6 : (rBest (-820) 12).1 = 0 := by decide
  have e7 : (rBest 0 12).1 = 11 := by decide
  have e8 : rResp 11 = 4 := by decide
  have e9 : rAir 0 14 + 16 + rAir (rResp 0) 14 = 104 := by decide
  go_enter Try.func9, Try.ntmps9
  go_wp2_with fail
  refine (get_yes 4 (by omega) (by omega) _).mono ?_
  rintro e w0 ⟨rfl, hB0⟩
  have hz0 := hB0.size
  go_wp2_with fail
  refine (get_no 12 (by omega) _).mono ?_
  rintro e w1 ⟨rfl, hb1⟩
  have hB1 := (hB0.alloc hz0 _).trans (hb1.mono (by simp; omega))
  have hz1 := hB1.size
  go_wp2_with fail
  refine (airF_no (-1) 0 (by omega) _).mono ?_
  rintro e w2 ⟨rfl, hb2⟩
  have hB2 := (hB1.alloc hz1 _).trans (hb2.mono (by simp; omega))
  have hz2 := hB2.size
  go_wp2_with fail
  refine (airF_no 0 65536 (by omega) _).mono ?_
  rintro e w3 ⟨rfl, hb3⟩
  have hB3 := hB2.trans (hb3.mono hz2)
  have hz3 := hB3.size
  go_wp2_with fail
  refine (length_is 0 24 0 (by omega) (by omega) (by decide) (by decide) (by omega) (fun _ => by decide) _).mono ?_
  rintro e w4 ⟨rfl, hb4⟩
  have hB4 := hB3.trans (hb4.mono hz3)
  have hz4 := hB4.size
  go_wp2_with fail
  refine (length_late 0 23 (by omega) (by omega) (by decide) _).mono ?_
  rintro e w5 ⟨rfl, hb5⟩
  have hB5 := hB4.trans (hb5.mono hz4)
  have hz5 := hB5.size
  go_wp2_with fail
  refine (length_is 0 28 3 (by omega) (by omega) (by decide) (by decide) (by omega) (fun _ => by decide) _).mono ?_
  rintro e w6 ⟨rfl, hb6⟩
  have hB6 := hB5.trans (hb6.mono hz5)
  have hz6 := hB6.size
  go_wp2_with fail
  refine (length_is 11 1099511627776 65535 (by omega) (by omega) (by decide) (by decide) (by omega) (fun h => by omega) _).mono ?_
  rintro e w7 ⟨rfl, hb7⟩
  have hB7 := hB6.trans (hb7.mono hz6)
  have hz7 := hB7.size
  go_wp2_with fail
  refine (best_any _ _).mono ?_
  rintro e w8 ⟨rfl, hb8⟩
  have hB8 := hB7.trans (hb8.mono hz7)
  have hz8 := hB8.size
  go_wp2_with fail
  refine (best_any _ _).mono ?_
  rintro e w9 ⟨rfl, hb9⟩
  have hB9 := hB8.trans (hb9.mono hz8)
  have hz9 := hB9.size
  go_wp2_with fail
  refine (best_any _ _).mono ?_
  rintro e w10 ⟨rfl, hb10⟩
  have hB10 := hB9.trans (hb10.mono hz9)
  have hz10 := hB10.size
  go_wp2_with fail
  refine (response_yes 11 (by omega) (by omega) _).mono ?_
  rintro e w11 ⟨rfl, hb11⟩
  have hB11 := hB10.trans (hb11.mono hz10)
  have hz11 := hB11.size
  go_wp2_with fail
  refine (total_yes 0 14 (by omega) (by omega) (by omega) (by omega) _).mono ?_
  rintro e w12 ⟨rfl, hb12⟩
  have hB12 := hB11.trans (hb12.mono hz11)
  have hz12 := hB12.size
  go_wp2_with fail
  refine (alive_any _).mono ?_
  rintro e w13 ⟨rfl, hb13⟩
  have hB13 := hB12.trans (hb13.mono hz12)
  have hz13 := hB13.size
  have D1 : Below (w0.heap.size + 1) (w0.alloc (.cells #[.int .i64 100, .int .i64 (-738), .bool true] 23)) w1 := hb1.mono (by simp)
  have s1 : w0.heap.size + 1 ≤ w1.heap.size := by have := D1.size; simpa using this
  have D2 := (D1.alloc s1 _).trans (hb2.mono (by simp; omega))
  have s2 : w0.heap.size + 1 ≤ w2.heap.size := by have := D2.size; simpa using this
  have D3 := D2.trans (hb3.mono s2)
  have s3 : w0.heap.size + 1 ≤ w3.heap.size := by have := D3.size; simpa using this
  have D4 := D3.trans (hb4.mono s3)
  have s4 : w0.heap.size + 1 ≤ w4.heap.size := by have := D4.size; simpa using this
  have D5 := D4.trans (hb5.mono s4)
  have s5 : w0.heap.size + 1 ≤ w5.heap.size := by have := D5.size; simpa using this
  have D6 := D5.trans (hb6.mono s5)
  have s6 : w0.heap.size + 1 ≤ w6.heap.size := by have := D6.size; simpa using this
  have D7 := D6.trans (hb7.mono s6)
  have s7 : w0.heap.size + 1 ≤ w7.heap.size := by have := D7.size; simpa using this
  have D8 := D7.trans (hb8.mono s7)
  have s8 : w0.heap.size + 1 ≤ w8.heap.size := by have := D8.size; simpa using this
  have D9 := D8.trans (hb9.mono s8)
  have s9 : w0.heap.size + 1 ≤ w9.heap.size := by have := D9.size; simpa using this
  have D10 := D9.trans (hb10.mono s9)
  have s10 : w0.heap.size + 1 ≤ w10.heap.size := by have := D10.size; simpa using this
  have D11 := D10.trans (hb11.mono s10)
  have s11 : w0.heap.size + 1 ≤ w11.heap.size := by have := D11.size; simpa using this
  have D12 := D11.trans (hb12.mono s11)
  have s12 : w0.heap.size + 1 ≤ w12.heap.size := by have := D12.size; simpa using this
  have D13 := D12.trans (hb13.mono s12)
  have s13 : w0.heap.size + 1 ≤ w13.heap.size := by have := D13.size; simpa using this
  have k0 : w13.cell? ⟨w0.heap.size, 0, none⟩ = some (.int .i64 100) := by rw [D13.cell (p := ⟨w0.heap.size, 0, none⟩) (Nat.lt_succ_self _)]; simp
  have k1 : w13.cell? ⟨w0.heap.size, 1, none⟩ = some (.int .i64 (-738)) := by rw [D13.cell (p := ⟨w0.heap.size, 1, none⟩) (Nat.lt_succ_self _)]; simp
  have k2 : w13.cell? ⟨w0.heap.size, 2, none⟩ = some (.bool true) := by rw [D13.cell (p := ⟨w0.heap.size, 2, none⟩) (Nat.lt_succ_self _)]; simp
  clear D1 s1 D2 s2 D3 s3 D4 s4 D5 s5 D6 s6 D7 s7 D8 s8 D9 s9 D10 s10 D11 s11 D12 s12 D13 s13
  go_wp2_with fail
  refine (count_any _).mono ?_
  rintro e w14 ⟨rfl, hb14⟩
  have hB14 := hB13.trans (hb14.mono hz13)
  have hz14 := hB14.size
  go_wp2
  go_ret
  exact ⟨rfl, hB14⟩
end Go.Proofs.Ytpcndmpdiaceeaa.rateNames
