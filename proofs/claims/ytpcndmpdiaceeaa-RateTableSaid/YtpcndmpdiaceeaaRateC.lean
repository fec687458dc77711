/-
  The plain laws of airtimes (no program in sight), and the contracts of rate.Best, rate.Total and rate.Length.
-/
import Derived.Test.YtpcndmpdiaceeaaRateB
namespace Go.Proofs.Ytpcndmpdiaceeaa
open Go.ChangeShapes Go.WideShapes Go.ChangeAt Go.RowKit Go.Great

/-! ### Plain laws -/
theorem rAir_mono (i a b : Int) (h0 : 0 ≤ i) (h1 : i < 12) (h : a ≤ b) : rAir i a ≤ rAir i b := by
  have hp := rBits_pos i h0 h1
  have := Int.ediv_le_ediv (c := rBits i) (by omega) (show 8 * a + 22 + rBits i - 1 ≤ 8 * b + 22 + rBits i - 1 by omega)
  unfold rAir
  omega
theorem rAir_bounds (i a : Int) (h0 : 0 ≤ i) (h1 : i < 12) (h2 : 0 ≤ a) (h3 : a ≤ 65535) : 24 ≤ rAir i a ∧ rAir i a ≤ 120020 ∧ rAir i a % 4 = 0 := by
  have hp := rBits_pos i h0 h1
  have hq := rQuo_le i a h0 h1 h2 h3
  have h4 : 1 ≤ (8 * a + 22 + rBits i - 1) / rBits i := by
    apply Int.le_ediv_of_mul_le (by omega)
    omega
  unfold rAir
  omega
theorem rBits_mono (i k : Int) (h0 : 0 ≤ i) (h : i ≤ k) (h1 : k < 12) : rBits i ≤ rBits k := by
  have : ∀ i : Fin 12, ∀ k : Fin 12, (i : Int) ≤ k → rBits i ≤ rBits k := by decide
  have h2 := this ⟨i.toNat, by omega⟩ ⟨k.toNat, by omega⟩
  simp only [Int.toNat_of_nonneg h0, Int.toNat_of_nonneg (show 0 ≤ k by omega)] at h2
  exact h2 h
/-- The least number of symbols. -/
theorem symbols_le (b m q : Int) (hb : 1 ≤ b) (h : m ≤ q * b) : (m + b - 1) / b ≤ q := by
  have h1 : (m + b - 1) / b < q + 1 := by
    apply Int.ediv_lt_of_lt_mul (by omega)
    rw [Int.add_mul, Int.one_mul]
    omega
  omega
theorem le_symbols (b m : Int) (hb : 1 ≤ b) : m ≤ (m + b - 1) / b * b := by
  have h1 := Int.ediv_mul_add_emod (m + b - 1) b
  have h2 := Int.emod_lt_of_pos (m + b - 1) (show 0 < b by omega)
  omega
theorem rAir_anti (i k a : Int) (h0 : 0 ≤ i) (h : i ≤ k) (h1 : k < 12) (h2 : 0 ≤ a) : rAir k a ≤ rAir i a := by
  have hm := rBits_mono i k h0 h h1
  have hp := rBits_pos i h0 (by omega)
  have h3 := le_symbols (rBits i) (8 * a + 22) (by omega)
  have h4 : 0 ≤ (8 * a + 22 + rBits i - 1) / rBits i := Int.ediv_nonneg (by omega) (by omega)
  have h5 : (8 * a + 22 + rBits i - 1) / rBits i * rBits i ≤ (8 * a + 22 + rBits i - 1) / rBits i * rBits k := Int.mul_le_mul_of_nonneg_left hm h4
  have h6 := symbols_le (rBits k) (8 * a + 22) ((8 * a + 22 + rBits i - 1) / rBits i) (by omega) (by omega)
  unfold rAir
  omega
theorem rAir_add (i a b : Int) (h0 : 0 ≤ i) (h1 : i < 12) : rAir i (a + b) ≤ rAir i a + rAir i b := by
  have hp := rBits_pos i h0 h1
  have e1 := le_symbols (rBits i) (8 * a + 22) (by omega)
  have e2 := le_symbols (rBits i) (8 * b + 22) (by omega)
  have h6 := symbols_le (rBits i) (8 * (a + b) + 22) ((8 * a + 22 + rBits i - 1) / rBits i + (8 * b + 22 + rBits i - 1) / rBits i) (by omega) (by rw [Int.add_mul]; omega)
  unfold rAir
  omega

/-- The best rate for a level among the first k rates, and whether there is one. -/
def rBest (l : Int) : Nat → Int × Bool
  | 0 => (0, false)
  | k + 1 => if rNeed (k : Int) ≤ l then ((k : Int), true) else rBest l k
theorem rBest_succ (l : Int) (k : Nat) : rBest l (k + 1) = if rNeed (k : Int) ≤ l then ((k : Int), true) else rBest l k := rfl
theorem rBest_bounds (l : Int) (k : Nat) : 0 ≤ (rBest l k).1 ∧ (rBest l k).1 ≤ k := by
  induction k with
  | zero => simp [rBest]
  | succ k ih =>
    rw [rBest_succ]
    split
    · simp; omega
    · omega

theorem best_any (l : Int) (w : World) : Calls Try.prog 12 #[.int .i64 l] w fun e w' => e = .returned (.tuple #[.int .i64 (rBest l 12).1, .bool (rBest l 12).2]) ∧ Below w.heap.size w w' := by
  go_enter Try.func12, Try.ntmps12
  go_wp2_with (go_at_call 29; refine (table_any _).mono ?_; rintro e w1 ⟨rfl, hb1⟩; have hz1 := hb1.size)
  go_loopw [4, 5, 9] (fun x y z wr => ∃ k : Nat, k ≤ 12 ∧ x = .int .i64 (rBest l k).1 ∧ y = .bool (rBest l k).2 ∧ z = .int .i64 k ∧ Below w.heap.size w wr) (fun _ _ z _ => 12 - (intOf z).toNat)
  case atStart => exact ⟨0, by omega, rfl, rfl, rfl, hb1⟩
  case round =>
    obtain ⟨k, hk, rfl, rfl, rfl, hB⟩ := hrel
    have hzr := hB.size
    by_cases hlt : k < 12
    · have hix := run_tab (k : Int) (by omega) (by omega)
      by_cases hn : rNeed (k : Int) ≤ l
      · have hs := Lib.hid ((rBest_succ l k).trans (if_pos hn))
        go_wp2
        go_roundw
        case rel => exact ⟨k + 1, by omega, by rw [hs.out], by rw [hs.out], by go_num, hB.alloc hzr _⟩
        case measure => simp [intOf]; omega
      · have hs := Lib.hid ((rBest_succ l k).trans (if_neg hn))
        go_wp2
        go_roundw
        case rel => exact ⟨k + 1, by omega, by rw [hs.out], by rw [hs.out], by go_num, hB.alloc hzr _⟩
        case measure => simp [intOf]; omega
    · obtain rfl : k = 12 := by omega
      go_wp2
      go_ret2
      exact ⟨rfl, hB⟩

theorem total_yes (i n : Int) (h0 : 0 ≤ i) (h1 : i < 12) (h2 : 0 ≤ n) (h3 : n ≤ 65535) (w : World) : Calls Try.prog 23 #[.int .i64 i, .int .i64 n] w fun e w' => e = .returned (.tuple #[.int .i64 (rAir i n + 16 + rAir (rResp i) 14), .int .i64 0]) ∧ Below w.heap.size w w' := by
  have hr := rResp_le i h0 h1
  have b1 := rAir_bounds i n h0 h1 h2 h3
  have b2 := rAir_bounds (rResp i) 14 hr.1 (by omega) (by omega) (by omega)
  go_enter Try.func23, Try.ntmps23
  go_wp2_with (first | (go_at_call 19; refine (airF_yes i n h0 h1 h2 h3 _).mono ?_; rintro e w1 ⟨rfl, hb1⟩; have hz1 := hb1.size) | (go_at_call 20; refine (ack_yes i h0 h1 _).mono ?_; rintro e w2 ⟨rfl, hb2⟩; have hB2 := hb1.trans (hb2.mono hz1)))
  go_ret2
  exact ⟨rfl, hB2⟩
theorem total_no (i n : Int) (h : ¬ ((0 ≤ i ∧ i < 12) ∧ 0 ≤ n ∧ n ≤ 65535)) (w : World) : Calls Try.prog 23 #[.int .i64 i, .int .i64 n] w fun e w' => e = .returned (.tuple #[.int .i64 0, .int .i64 2]) ∧ Below w.heap.size w w' := by
  have H := Lib.hid h
  clear h
  go_enter Try.func23, Try.ntmps23
  go_wp2_with (go_at_call 19; refine (airF_no i n H.out _).mono ?_; rintro e w1 ⟨rfl, hb1⟩; have hz1 := hb1.size)
  go_ret2
  exact ⟨rfl, by go_grown⟩

/-- What Length returns: the greatest number of bytes that fits into the time. -/
structure Fits (i t n : Int) : Prop where
  low : 0 ≤ n
  high : n ≤ 65535
  fits : rAir i n ≤ t
  most : ∀ m, n < m → m ≤ 65535 → t < rAir i m
def LenOk (i t : Int) (e : Ending) : Prop := ∃ n, Fits i t n ∧ e = .returned (.tuple #[.int .i64 n, .int .i64 0])

theorem length_no (i t : Int) (h : i < 0 ∨ 12 ≤ i) (w : World) : Calls Try.prog 24 #[.int .i64 i, .int .i64 t] w fun e w' => e = .returned (.tuple #[.int .i64 0, .int .i64 2]) ∧ Below w.heap.size w w' := by
  have H := Lib.hid h
  clear h
  go_enter Try.func24, Try.ntmps24
  go_wp2_with (go_at_call 19; refine (airF_no i 0 (fun hh => by have := H.out; omega) _).mono ?_; rintro e w1 ⟨rfl, hb1⟩; have hz1 := hb1.size)
  go_ret2
  exact ⟨rfl, by go_grown⟩
theorem length_late (i t : Int) (h0 : 0 ≤ i) (h1 : i < 12) (ht : t < rAir i 0) (w : World) : Calls Try.prog 24 #[.int .i64 i, .int .i64 t] w fun e w' => e = .returned (.tuple #[.int .i64 0, .int .i64 40]) ∧ Below w.heap.size w w' := by
  go_enter Try.func24, Try.ntmps24
  go_wp2_with (go_at_call 19; refine (airF_yes i 0 h0 h1 (by omega) (by omega) _).mono ?_; rintro e w1 ⟨rfl, hb1⟩; have hz1 := hb1.size)
  go_ret2
  exact ⟨rfl, by go_grown⟩
theorem length_yes (i t : Int) (h0 : 0 ≤ i) (h1 : i < 12) (ht : rAir i 0 ≤ t) (w : World) : Calls Try.prog 24 #[.int .i64 i, .int .i64 t] w fun e w' => LenOk i t e ∧ Below w.heap.size w w' := by
  go_enter Try.func24, Try.ntmps24
  go_wp2_with (go_at_call 19; refine (airF_yes i 0 h0 h1 (by omega) (by omega) _).mono ?_; rintro e w1 ⟨rfl, hb1⟩; have hz1 := hb1.size)
  go_loopw [8, 9] (fun x y wr => ∃ lo hi : Int, 0 ≤ lo ∧ lo ≤ hi ∧ hi ≤ 65535 ∧ x = .int .i64 lo ∧ y = .int .i64 hi ∧ rAir i lo ≤ t ∧ Hid (∀ m, hi < m → m ≤ 65535 → t < rAir i m) ∧ Below w.heap.size w wr) (fun x y _ => (intOf y - intOf x).toNat)
  case atStart => exact ⟨0, 65535, by omega, by omega, by omega, rfl, rfl, ht, Lib.hid (fun m a b => by omega), hb1⟩
  case round =>
    obtain ⟨lo, hi, g0, g1, g2, rfl, rfl, g3, g4, hB⟩ := hrel
    have hzr := hB.size
    by_cases hlt : lo < hi
    · by_cases hm : rAir i ((lo + hi + 1) / 2) ≤ t
      · go_wp2_with (go_at_call 19; refine (airF_yes i ((lo + hi + 1) / 2) h0 h1 (by omega) (by omega) _).mono ?_; rintro e w2 ⟨rfl, hb2⟩; have hB2 := hB.trans (hb2.mono hzr))
        go_roundw
        case rel => exact ⟨(lo + hi + 1) / 2, hi, by omega, by omega, by omega, rfl, rfl, hm, g4, hB2⟩
        case measure => simp [intOf]; omega
      · have hm' := Lib.hid (fun (m : Int) (a : (lo + hi + 1) / 2 - 1 < m) (_ : m ≤ 65535) => (show t < rAir i m by have := rAir_mono i ((lo + hi + 1) / 2) m h0 h1 (by omega); omega))
        go_wp2_with (go_at_call 19; refine (airF_yes i ((lo + hi + 1) / 2) h0 h1 (by omega) (by omega) _).mono ?_; rintro e w2 ⟨rfl, hb2⟩; have hB2 := hB.trans (hb2.mono hzr))
        go_roundw
        case rel => exact ⟨lo, (lo + hi + 1) / 2 - 1, by omega, by omega, by omega, rfl, rfl, g3, hm', hB2⟩
        case measure => simp [intOf]; omega
    · obtain rfl : lo = hi := by omega
      go_wp2
      go_ret2
      exact ⟨⟨lo, ⟨g0, g2, g3, g4.out⟩, rfl⟩, hB⟩

/-! ### Air for all arguments: its number and its error -/
def airOk (i n : Int) : Bool := decide ((0 ≤ i ∧ i < 12) ∧ 0 ≤ n ∧ n ≤ 65535)
def airV (i n : Int) : Int := if airOk i n then rAir i n else 0
def airE (i n : Int) : Int := if airOk i n then 0 else 2
theorem airF_any (i n : Int) (w : World) : Calls Try.prog 19 #[.int .i64 i, .int .i64 n] w fun e w' => e = .returned (.tuple #[.int .i64 (airV i n), .int .i64 (airE i n)]) ∧ Below w.heap.size w w' := by
  by_cases h : (0 ≤ i ∧ i < 12) ∧ 0 ≤ n ∧ n ≤ 65535
  · have hv : airOk i n = true := by simp [airOk, h]
    simp only [airV, airE, hv, if_true]
    exact airF_yes i n h.1.1 h.1.2 h.2.1 h.2.2 w
  · have hv : airOk i n = false := by simp only [airOk, h, decide_false]
    simp only [airV, airE, hv]
    exact airF_no i n h w
end Go.Proofs.Ytpcndmpdiaceeaa
