/-
  math/bits.TrailingZeros64 over the table's cells, and window's check, New, Mark, Has, Move, First.
-/
import Derived.Test.YtclahaafpiekeaaDoorWin
import Derived.Test.YtclahaafpiekeaaDoorRow
import Derived.Laws.Bits64b
import Derived.Lib.TrailingZeros
namespace Go.Proofs.YtclahaafpiekeaaDoor
open Go.ChangeShapes Go.WideShapes Go.ChangeAt Go.RowKit

/-- The de Bruijn table's cells. -/
def Bru (w : World) : Prop := ∀ j, j < 64 → w.cell? ⟨0, j, none⟩ = some (.int .u8 (Lib.deBruijn64tab.getD j 0))
theorem Bru.below {w w' : World} (T : Bru w) (h : Below w.heap.size w w') : Bru w' := fun j hj => below_kept h (T j hj)
theorem Bru.alloc {w : World} (T : Bru w) {o : Obj} : Bru (w.alloc o) := T.below ((Below.refl _ _).alloc (Nat.le_refl _) _)

set_option maxHeartbeats 1000000 in
theorem tz_core (x k idx : Nat) (w : World) (hx0 : ((x : Int) == 0) = false)
    (key : IntKind.u64.wrap (bits BinOp.and IntKind.u64 (x : Int) (IntKind.u64.wrap (-(x : Int))) * 285870213051353865) / 288230376151711744 = (idx : Int))
    (hi : idx < 64) (hk : k < 64) (hcell : w.cell? ⟨0, idx, none⟩ = some (.int .u8 k)) :
    Calls Tryd.prog 21 #[.int .u64 x] w fun e w' => e = .returned (.int .i64 k) ∧ w = w' := by
  go_enter Tryd.func21, Tryd.ntmps21
  go_wp2_with (simp only [key])
  go_ret
  exact ⟨rfl, rfl⟩
theorem tz_zero (w : World) : Calls Tryd.prog 21 #[.int .u64 0] w fun e w' => e = .returned (.int .i64 64) ∧ w = w' := by
  go_enter Tryd.func21, Tryd.ntmps21
  go_wp2
  go_ret
  exact ⟨rfl, rfl⟩
theorem tz_key (x a : Nat) (hx : x < 18446744073709551616) (hlow : x &&& (18446744073709551616 - x) = a) (hx0 : x ≠ 0) :
    IntKind.u64.wrap (bits BinOp.and IntKind.u64 (x : Int) (IntKind.u64.wrap (-(x : Int))) * 285870213051353865) / 288230376151711744 = ((a * 285870213051353865 % 18446744073709551616 / 288230376151711744 : Nat) : Int) := by
  have e1 : IntKind.u64.wrap (-(x : Int)) = ((18446744073709551616 - x : Nat) : Int) := by rw [IntKind.wrap_u64]; omega
  rw [e1, bits_and_u64_nat x _ hx (by omega), hlow, IntKind.wrap_u64]
  omega
theorem tz_any (x : Nat) (hx : x < 18446744073709551616) (w : World) (T : Bru w) :
    Calls Tryd.prog 21 #[.int .u64 x] w fun e w' => e = .returned (.int .i64 (Lib.ctz 64 x)) ∧ w = w' := by
  by_cases hx0 : x = 0
  · subst hx0
    exact tz_zero w
  · obtain ⟨hlow, hk⟩ := Lib.lowest_bit 64 x hx0 hx
    obtain ⟨hi, htab⟩ := Lib.deBruijn64_at _ hk
    have hcell := T _ hi
    rw [htab] at hcell
    exact tz_core x _ _ w (by simpa using hx0) (tz_key x _ hx hlow hx0) hi hk hcell

/-- The error of a window; of a window and a number. -/
def winE (s : Int) : Int := if numB s then 0 else 8
def chkE (s a : Int) : Int := if numB s then (if numB a then 0 else 2) else 8
theorem wcheck_any (s : Int) (b : Int) (w : World) : Calls Tryd.prog 18 #[.agg #[.int .i64 s, .int .u64 b]] w fun e w' => e = .returned (.int .i64 (winE s)) ∧ Below w.heap.size w w' := by
  have c1 : numB s = true ∨ numB s = false := by cases numB s <;> simp
  rcases c1 with c1 | c1
  all_goals
    have he := Lib.hid (show winE s = _ by simp only [winE, c1]; rfl)
    go_enter Tryd.func18, Tryd.ntmps18
    go_wp2_with (go_at_call 19; refine (number_any _ _).mono ?_; rintro e w' ⟨rfl, rfl⟩)
    go_ret
    exact ⟨win_ret he.out.symm, by go_grown⟩
-- GENERATED BELOW (genwin.py)
theorem wchk_bad (s a : Int) (b : Nat) (h : winE s = 8) (w : World) : Calls Tryd.prog 20 #[.agg #[.int .i64 s, .int .u64 b], .int .i64 a] w fun e w' => e = .returned (.int .i64 8) ∧ Below w.heap.size w w' := by
  have Rp0 := Lib.hid (fr_rows1 w (.cells #[.int .i64 s, .int .u64 b] 27))
  go_enter Tryd.func20, Tryd.ntmps20
  go_wp2_with fail
  refine (wcheck_any s b _).mono ?_
  rintro e w1 ⟨rfl, hb1⟩
  have hB1 : Below w.heap.size w w1 := ((Below.refl _ _).alloc (by first | exact Nat.le_refl _ | (simp only [World.size_alloc]; omega)) _).trans (hb1.mono (by first | exact Nat.le_refl _ | (simp only [World.size_alloc]; omega)))
  have Rp1 := Lib.hid (row_below hb1 Rp0.out)
  clear hb1 Rp0
  have p0w1 : w1.cell? ⟨w.heap.size, 0, none⟩ = some (.int .i64 s) := (cell_of_row _ _ _ _ _ _ Rp1.out).trans rfl
  have p1w1 : w1.cell? ⟨w.heap.size, 1, none⟩ = some (.int .u64 b) := (cell_of_row _ _ _ _ _ _ Rp1.out).trans rfl
  have pfw1 : ∀ o, w1.frozen? ⟨w.heap.size, o, none⟩ = false := fun o => frozen_of_row _ _ _ _ _ Rp1.out
  have py1 : w.heap.size < w1.heap.size := row_lt Rp1.out
  simp only [h]
  go_wp2
  go_ret
  exact ⟨rfl, by first | exact hB1 | go_grown⟩
theorem wchk_arg (s a : Int) (b : Nat) (h : winE s = 0) (t : numB a = false) (w : World) : Calls Tryd.prog 20 #[.agg #[.int .i64 s, .int .u64 b], .int .i64 a] w fun e w' => e = .returned (.int .i64 2) ∧ Below w.heap.size w w' := by
  have Rp0 := Lib.hid (fr_rows1 w (.cells #[.int .i64 s, .int .u64 b] 27))
  go_enter Tryd.func20, Tryd.ntmps20
  go_wp2_with fail
  refine (wcheck_any s b _).mono ?_
  rintro e w1 ⟨rfl, hb1⟩
  have hB1 : Below w.heap.size w w1 := ((Below.refl _ _).alloc (by first | exact Nat.le_refl _ | (simp only [World.size_alloc]; omega)) _).trans (hb1.mono (by first | exact Nat.le_refl _ | (simp only [World.size_alloc]; omega)))
  have Rp1 := Lib.hid (row_below hb1 Rp0.out)
  clear hb1 Rp0
  have p0w1 : w1.cell? ⟨w.heap.size, 0, none⟩ = some (.int .i64 s) := (cell_of_row _ _ _ _ _ _ Rp1.out).trans rfl
  have p1w1 : w1.cell? ⟨w.heap.size, 1, none⟩ = some (.int .u64 b) := (cell_of_row _ _ _ _ _ _ Rp1.out).trans rfl
  have pfw1 : ∀ o, w1.frozen? ⟨w.heap.size, o, none⟩ = false := fun o => frozen_of_row _ _ _ _ _ Rp1.out
  have py1 : w.heap.size < w1.heap.size := row_lt Rp1.out
  simp only [h]
  go_wp2_with fail
  refine (number_any a _).mono ?_
  rintro e w' ⟨rfl, rfl⟩
  simp only [t]
  go_wp2
  go_ret
  exact ⟨rfl, by first | exact hB1 | go_grown⟩
theorem wchk_ok (s a : Int) (b : Nat) (h : winE s = 0) (t : numB a = true) (w : World) : Calls Tryd.prog 20 #[.agg #[.int .i64 s, .int .u64 b], .int .i64 a] w fun e w' => e = .returned (.int .i64 0) ∧ Below w.heap.size w w' := by
  have Rp0 := Lib.hid (fr_rows1 w (.cells #[.int .i64 s, .int .u64 b] 27))
  go_enter Tryd.func20, Tryd.ntmps20
  go_wp2_with fail
  refine (wcheck_any s b _).mono ?_
  rintro e w1 ⟨rfl, hb1⟩
  have hB1 : Below w.heap.size w w1 := ((Below.refl _ _).alloc (by first | exact Nat.le_refl _ | (simp only [World.size_alloc]; omega)) _).trans (hb1.mono (by first | exact Nat.le_refl _ | (simp only [World.size_alloc]; omega)))
  have Rp1 := Lib.hid (row_below hb1 Rp0.out)
  clear hb1 Rp0
  have p0w1 : w1.cell? ⟨w.heap.size, 0, none⟩ = some (.int .i64 s) := (cell_of_row _ _ _ _ _ _ Rp1.out).trans rfl
  have p1w1 : w1.cell? ⟨w.heap.size, 1, none⟩ = some (.int .u64 b) := (cell_of_row _ _ _ _ _ _ Rp1.out).trans rfl
  have pfw1 : ∀ o, w1.frozen? ⟨w.heap.size, o, none⟩ = false := fun o => frozen_of_row _ _ _ _ _ Rp1.out
  have py1 : w.heap.size < w1.heap.size := row_lt Rp1.out
  simp only [h]
  go_wp2_with fail
  refine (number_any a _).mono ?_
  rintro e w' ⟨rfl, rfl⟩
  simp only [t]
  go_wp2
  go_ret
  exact ⟨rfl, by first | exact hB1 | go_grown⟩
theorem winE_two (s : Int) : winE s = 0 ∨ winE s = 8 := by simp only [winE]; split <;> simp
theorem wchk_any (s a : Int) (b : Nat) (w : World) : Calls Tryd.prog 20 #[.agg #[.int .i64 s, .int .u64 b], .int .i64 a] w fun e w' => e = .returned (.int .i64 (chkE s a)) ∧ Below w.heap.size w w' := by
  rcases winE_two s with h | h
  · have h2 : numB s = true := by simp only [winE] at h; split at h <;> simp_all
    by_cases t : numB a = true
    · simpa [chkE, h2, t] using wchk_ok s a b h t w
    · simp only [Bool.not_eq_true] at t
      simpa [chkE, h2, t] using wchk_arg s a b h t w
  · have h2 : numB s = false := by simp only [winE] at h; split at h <;> simp_all
    simpa [chkE, h2] using wchk_bad s a b h w
theorem new_ok (a : Int) (t : numB a = true) (w : World) : Calls Tryd.prog 11 #[.int .i64 a] w fun e w' => e = .returned (.tuple #[.agg #[.int .i64 a, .int .u64 0], .int .i64 0]) ∧ Below w.heap.size w w' := by
  go_enter Tryd.func11, Tryd.ntmps11
  go_wp2_with fail
  refine (number_any a _).mono ?_
  rintro e w' ⟨rfl, rfl⟩
  simp only [t]
  go_wp2
  refine bodyPost_ret (v := .tuple #[.agg #[.int .i64 a, .int .u64 0], .int .i64 0]) (by simp [results, Tryd.results11, go_sem]) rfl ?_
  exact ⟨rfl, by first | exact hB1 | go_grown⟩
theorem new_bad (a : Int) (t : numB a = false) (w : World) : Calls Tryd.prog 11 #[.int .i64 a] w fun e w' => e = .returned (.tuple #[.agg #[.int .i64 0, .int .u64 0], .int .i64 2]) ∧ Below w.heap.size w w' := by
  go_enter Tryd.func11, Tryd.ntmps11
  go_wp2_with fail
  refine (number_any a _).mono ?_
  rintro e w' ⟨rfl, rfl⟩
  simp only [t]
  go_wp2
  refine bodyPost_ret (v := .tuple #[.agg #[.int .i64 0, .int .u64 0], .int .i64 2]) (by simp [results, Tryd.results11, go_sem]) rfl ?_
  exact ⟨rfl, by first | exact hB1 | go_grown⟩
theorem has_no (s a : Int) (b : Nat) (h : chkE s a ≠ 0) (w : World) : Calls Tryd.prog 17 #[.agg #[.int .i64 s, .int .u64 b], .int .i64 a] w fun e w' => e = .returned (.bool false) ∧ Below w.heap.size w w' := by
  have hd : (chkE s a == 0) = false := by simpa using h
  have Rp0 := Lib.hid (fr_rows1 w (.cells #[.int .i64 s, .int .u64 b] 27))
  go_enter Tryd.func17, Tryd.ntmps17
  go_wp2_with fail
  refine (wchk_any s a b _).mono ?_
  rintro e w1 ⟨rfl, hb1⟩
  have hB1 : Below w.heap.size w w1 := ((Below.refl _ _).alloc (by first | exact Nat.le_refl _ | (simp only [World.size_alloc]; omega)) _).trans (hb1.mono (by first | exact Nat.le_refl _ | (simp only [World.size_alloc]; omega)))
  have Rp1 := Lib.hid (row_below hb1 Rp0.out)
  clear hb1 Rp0
  have p0w1 : w1.cell? ⟨w.heap.size, 0, none⟩ = some (.int .i64 s) := (cell_of_row _ _ _ _ _ _ Rp1.out).trans rfl
  have p1w1 : w1.cell? ⟨w.heap.size, 1, none⟩ = some (.int .u64 b) := (cell_of_row _ _ _ _ _ _ Rp1.out).trans rfl
  have pfw1 : ∀ o, w1.frozen? ⟨w.heap.size, o, none⟩ = false := fun o => frozen_of_row _ _ _ _ _ Rp1.out
  have py1 : w.heap.size < w1.heap.size := row_lt Rp1.out
  go_wp2
  go_ret
  exact ⟨rfl, by first | exact hB1 | go_grown⟩
theorem has_far (s a : Int) (b : Nat) (d : Int) (h : chkE s a = 0) (hd : (a - s) % 4096 = d) (t : 64 ≤ d) (w : World) : Calls Tryd.prog 17 #[.agg #[.int .i64 s, .int .u64 b], .int .i64 a] w fun e w' => e = .returned (.bool false) ∧ Below w.heap.size w w' := by
  have HD := Lib.hid hd
  clear hd
  have Rp0 := Lib.hid (fr_rows1 w (.cells #[.int .i64 s, .int .u64 b] 27))
  go_enter Tryd.func17, Tryd.ntmps17
  go_wp2_with fail
  refine (wchk_any s a b _).mono ?_
  rintro e w1 ⟨rfl, hb1⟩
  have hB1 : Below w.heap.size w w1 := ((Below.refl _ _).alloc (by first | exact Nat.le_refl _ | (simp only [World.size_alloc]; omega)) _).trans (hb1.mono (by first | exact Nat.le_refl _ | (simp only [World.size_alloc]; omega)))
  have Rp1 := Lib.hid (row_below hb1 Rp0.out)
  clear hb1 Rp0
  have p0w1 : w1.cell? ⟨w.heap.size, 0, none⟩ = some (.int .i64 s) := (cell_of_row _ _ _ _ _ _ Rp1.out).trans rfl
  have p1w1 : w1.cell? ⟨w.heap.size, 1, none⟩ = some (.int .u64 b) := (cell_of_row _ _ _ _ _ _ Rp1.out).trans rfl
  have pfw1 : ∀ o, w1.frozen? ⟨w.heap.size, o, none⟩ = false := fun o => frozen_of_row _ _ _ _ _ Rp1.out
  have py1 : w.heap.size < w1.heap.size := row_lt Rp1.out
  simp only [h]
  go_wp2_with fail
  refine (dist_any s a _).mono ?_
  rintro e w' ⟨rfl, rfl⟩
  simp only [HD.out]
  go_wp2
  go_ret
  exact ⟨rfl, by first | exact hB1 | go_grown⟩
theorem has_core (s a : Int) (b : Nat) (d : Int) (bit : Bool) (h : chkE s a = 0) (hd : (a - s) % 4096 = d) (h0 : 0 ≤ d) (t : d < 64) (hy : (bits .and .u64 ((b : Int) / 2 ^ d.toNat) 1 == 1) = bit) (w : World) : Calls Tryd.prog 17 #[.agg #[.int .i64 s, .int .u64 b], .int .i64 a] w fun e w' => e = .returned (.bool bit) ∧ Below w.heap.size w w' := by
  have HD := Lib.hid hd
  have HY := Lib.hid hy
  clear hd hy
  have Rp0 := Lib.hid (fr_rows1 w (.cells #[.int .i64 s, .int .u64 b] 27))
  go_enter Tryd.func17, Tryd.ntmps17
  go_wp2_with fail
  refine (wchk_any s a b _).mono ?_
  rintro e w1 ⟨rfl, hb1⟩
  have hB1 : Below w.heap.size w w1 := ((Below.refl _ _).alloc (by first | exact Nat.le_refl _ | (simp only [World.size_alloc]; omega)) _).trans (hb1.mono (by first | exact Nat.le_refl _ | (simp only [World.size_alloc]; omega)))
  have Rp1 := Lib.hid (row_below hb1 Rp0.out)
  clear hb1 Rp0
  have p0w1 : w1.cell? ⟨w.heap.size, 0, none⟩ = some (.int .i64 s) := (cell_of_row _ _ _ _ _ _ Rp1.out).trans rfl
  have p1w1 : w1.cell? ⟨w.heap.size, 1, none⟩ = some (.int .u64 b) := (cell_of_row _ _ _ _ _ _ Rp1.out).trans rfl
  have pfw1 : ∀ o, w1.frozen? ⟨w.heap.size, o, none⟩ = false := fun o => frozen_of_row _ _ _ _ _ Rp1.out
  have py1 : w.heap.size < w1.heap.size := row_lt Rp1.out
  simp only [h]
  go_wp2_with fail
  refine (dist_any s a _).mono ?_
  rintro e w' ⟨rfl, rfl⟩
  simp only [HD.out]
  go_wp2
  go_ret
  exact ⟨fr_retb HY.out, hB1⟩
/-- Is a number marked? -/
def hasB (s a : Int) (b : Nat) : Bool := decide (chkE s a = 0) && decide ((a - s) % 4096 < 64) && b.testBit ((a - s) % 4096).toNat
theorem bit_at (b k : Nat) (hb : b < 18446744073709551616) : (bits .and .u64 ((b : Int) / 2 ^ k) 1 == 1) = b.testBit k := by
  have e : (b : Int) / 2 ^ k = ((b / 2 ^ k : Nat) : Int) := by simp
  have h1 := bits_and_u64_nat (b / 2 ^ k) 1 (Nat.lt_of_le_of_lt (Nat.div_le_self _ _) hb) (by omega)
  have h2 : bits .and .u64 ((b / 2 ^ k : Nat) : Int) 1 = ((b / 2 ^ k % 2 : Nat) : Int) := by
    rw [← Nat.and_one_is_mod]; exact h1
  rw [e, h2, Nat.testBit_eq_decide_div_mod_eq, Bool.eq_iff_iff]
  simp
  omega
theorem has_any (s a : Int) (b : Nat) (hb : b < 18446744073709551616) (w : World) : Calls Tryd.prog 17 #[.agg #[.int .i64 s, .int .u64 b], .int .i64 a] w fun e w' => e = .returned (.bool (hasB s a b)) ∧ Below w.heap.size w w' := by
  have h0 : 0 ≤ (a - s) % 4096 := Int.emod_nonneg _ (by omega)
  by_cases h : chkE s a = 0
  · by_cases t : (a - s) % 4096 < 64
    · have := has_core s a b _ _ h rfl h0 t (bit_at b _ hb) w
      simpa only [hasB, h, t, decide_true, Bool.true_and] using this
    · have := has_far s a b _ h rfl (by omega) w
      simpa only [hasB, h, t, decide_true, decide_false, Bool.and_false, Bool.false_and] using this
  · have := has_no s a b h w
    simpa only [hasB, h, decide_false, Bool.false_and] using this
theorem mark_bad (s a : Int) (b : Nat) (h : chkE s a = 8) (w : World) : Calls Tryd.prog 12 #[.agg #[.int .i64 s, .int .u64 b], .int .i64 a] w fun e w' => e = .returned (.tuple #[.agg #[.int .i64 0, .int .u64 0], .int .i64 8]) ∧ Below w.heap.size w w' := by
  obtain ⟨rp, rq⟩ := fr_rows2 w (.cells #[.int .i64 s, .int .u64 b] 27) (.cells #[.int .i64 0, .int .u64 0] 27)
  have Rp0 := Lib.hid rp
  have Rq0 := Lib.hid rq
  clear rp rq
  go_enter Tryd.func12, Tryd.ntmps12
  go_wp2_with fail
  refine (wchk_any s a b _).mono ?_
  rintro e w1 ⟨rfl, hb1⟩
  have hB1 : Below w.heap.size w w1 := (((Below.refl _ _).alloc (by first | exact Nat.le_refl _ | (simp only [World.size_alloc]; omega)) _).alloc (by first | exact Nat.le_refl _ | (simp only [World.size_alloc]; omega)) _).trans (hb1.mono (by first | exact Nat.le_refl _ | (simp only [World.size_alloc]; omega)))
  have Rp1 := Lib.hid (row_below hb1 Rp0.out)
  have Rq1 := Lib.hid (row_below hb1 Rq0.out)
  clear hb1 Rp0 Rq0
  have p0w1 : w1.cell? ⟨w.heap.size, 0, none⟩ = some (.int .i64 s) := (cell_of_row _ _ _ _ _ _ Rp1.out).trans rfl
  have p1w1 : w1.cell? ⟨w.heap.size, 1, none⟩ = some (.int .u64 b) := (cell_of_row _ _ _ _ _ _ Rp1.out).trans rfl
  have pfw1 : ∀ o, w1.frozen? ⟨w.heap.size, o, none⟩ = false := fun o => frozen_of_row _ _ _ _ _ Rp1.out
  have py1 : w.heap.size < w1.heap.size := row_lt Rp1.out
  have q0w1 : w1.cell? ⟨w.heap.size + 1, 0, none⟩ = some (.int .i64 0) := (cell_of_row _ _ _ _ _ _ Rq1.out).trans rfl
  have q1w1 : w1.cell? ⟨w.heap.size + 1, 1, none⟩ = some (.int .u64 0) := (cell_of_row _ _ _ _ _ _ Rq1.out).trans rfl
  have qfw1 : ∀ o, w1.frozen? ⟨w.heap.size + 1, o, none⟩ = false := fun o => frozen_of_row _ _ _ _ _ Rq1.out
  have qy1 : w.heap.size + 1 < w1.heap.size := row_lt Rq1.out
  simp only [h]
  go_wp2
  refine bodyPost_ret (v := .tuple #[.agg #[.int .i64 0, .int .u64 0], .int .i64 8]) (by simp [results, Tryd.results12, go_sem, q0w1, q1w1]) rfl ?_
  exact ⟨rfl, by go_grown⟩
theorem mark_arg (s a : Int) (b : Nat) (h : chkE s a = 2) (w : World) : Calls Tryd.prog 12 #[.agg #[.int .i64 s, .int .u64 b], .int .i64 a] w fun e w' => e = .returned (.tuple #[.agg #[.int .i64 0, .int .u64 0], .int .i64 2]) ∧ Below w.heap.size w w' := by
  obtain ⟨rp, rq⟩ := fr_rows2 w (.cells #[.int .i64 s, .int .u64 b] 27) (.cells #[.int .i64 0, .int .u64 0] 27)
  have Rp0 := Lib.hid rp
  have Rq0 := Lib.hid rq
  clear rp rq
  go_enter Tryd.func12, Tryd.ntmps12
  go_wp2_with fail
  refine (wchk_any s a b _).mono ?_
  rintro e w1 ⟨rfl, hb1⟩
  have hB1 : Below w.heap.size w w1 := (((Below.refl _ _).alloc (by first | exact Nat.le_refl _ | (simp only [World.size_alloc]; omega)) _).alloc (by first | exact Nat.le_refl _ | (simp only [World.size_alloc]; omega)) _).trans (hb1.mono (by first | exact Nat.le_refl _ | (simp only [World.size_alloc]; omega)))
  have Rp1 := Lib.hid (row_below hb1 Rp0.out)
  have Rq1 := Lib.hid (row_below hb1 Rq0.out)
  clear hb1 Rp0 Rq0
  have p0w1 : w1.cell? ⟨w.heap.size, 0, none⟩ = some (.int .i64 s) := (cell_of_row _ _ _ _ _ _ Rp1.out).trans rfl
  have p1w1 : w1.cell? ⟨w.heap.size, 1, none⟩ = some (.int .u64 b) := (cell_of_row _ _ _ _ _ _ Rp1.out).trans rfl
  have pfw1 : ∀ o, w1.frozen? ⟨w.heap.size, o, none⟩ = false := fun o => frozen_of_row _ _ _ _ _ Rp1.out
  have py1 : w.heap.size < w1.heap.size := row_lt Rp1.out
  have q0w1 : w1.cell? ⟨w.heap.size + 1, 0, none⟩ = some (.int .i64 0) := (cell_of_row _ _ _ _ _ _ Rq1.out).trans rfl
  have q1w1 : w1.cell? ⟨w.heap.size + 1, 1, none⟩ = some (.int .u64 0) := (cell_of_row _ _ _ _ _ _ Rq1.out).trans rfl
  have qfw1 : ∀ o, w1.frozen? ⟨w.heap.size + 1, o, none⟩ = false := fun o => frozen_of_row _ _ _ _ _ Rq1.out
  have qy1 : w.heap.size + 1 < w1.heap.size := row_lt Rq1.out
  simp only [h]
  go_wp2
  refine bodyPost_ret (v := .tuple #[.agg #[.int .i64 0, .int .u64 0], .int .i64 2]) (by simp [results, Tryd.results12, go_sem, q0w1, q1w1]) rfl ?_
  exact ⟨rfl, by go_grown⟩
theorem mark_far (s a : Int) (b : Nat) (d : Int) (h : chkE s a = 0) (hd : (a - s) % 4096 = d) (t : 64 ≤ d) (w : World) : Calls Tryd.prog 12 #[.agg #[.int .i64 s, .int .u64 b], .int .i64 a] w fun e w' => e = .returned (.tuple #[.agg #[.int .i64 0, .int .u64 0], .int .i64 21]) ∧ Below w.heap.size w w' := by
  have HD := Lib.hid hd
  clear hd
  obtain ⟨rp, rq⟩ := fr_rows2 w (.cells #[.int .i64 s, .int .u64 b] 27) (.cells #[.int .i64 0, .int .u64 0] 27)
  have Rp0 := Lib.hid rp
  have Rq0 := Lib.hid rq
  clear rp rq
  go_enter Tryd.func12, Tryd.ntmps12
  go_wp2_with fail
  refine (wchk_any s a b _).mono ?_
  rintro e w1 ⟨rfl, hb1⟩
  have hB1 : Below w.heap.size w w1 := (((Below.refl _ _).alloc (by first | exact Nat.le_refl _ | (simp only [World.size_alloc]; omega)) _).alloc (by first | exact Nat.le_refl _ | (simp only [World.size_alloc]; omega)) _).trans (hb1.mono (by first | exact Nat.le_refl _ | (simp only [World.size_alloc]; omega)))
  have Rp1 := Lib.hid (row_below hb1 Rp0.out)
  have Rq1 := Lib.hid (row_below hb1 Rq0.out)
  clear hb1 Rp0 Rq0
  have p0w1 : w1.cell? ⟨w.heap.size, 0, none⟩ = some (.int .i64 s) := (cell_of_row _ _ _ _ _ _ Rp1.out).trans rfl
  have p1w1 : w1.cell? ⟨w.heap.size, 1, none⟩ = some (.int .u64 b) := (cell_of_row _ _ _ _ _ _ Rp1.out).trans rfl
  have pfw1 : ∀ o, w1.frozen? ⟨w.heap.size, o, none⟩ = false := fun o => frozen_of_row _ _ _ _ _ Rp1.out
  have py1 : w.heap.size < w1.heap.size := row_lt Rp1.out
  have q0w1 : w1.cell? ⟨w.heap.size + 1, 0, none⟩ = some (.int .i64 0) := (cell_of_row _ _ _ _ _ _ Rq1.out).trans rfl
  have q1w1 : w1.cell? ⟨w.heap.size + 1, 1, none⟩ = some (.int .u64 0) := (cell_of_row _ _ _ _ _ _ Rq1.out).trans rfl
  have qfw1 : ∀ o, w1.frozen? ⟨w.heap.size + 1, o, none⟩ = false := fun o => frozen_of_row _ _ _ _ _ Rq1.out
  have qy1 : w.heap.size + 1 < w1.heap.size := row_lt Rq1.out
  simp only [h]
  go_wp2_with fail
  refine (dist_any s a _).mono ?_
  rintro e w' ⟨rfl, rfl⟩
  simp only [HD.out]
  go_wp2
  refine bodyPost_ret (v := .tuple #[.agg #[.int .i64 0, .int .u64 0], .int .i64 21]) (by simp [results, Tryd.results12, go_sem, q0w1, q1w1]) rfl ?_
  exact ⟨rfl, by go_grown⟩
theorem win_two {a : Int} {x y : Int} {v : Value} (h : x = y) : Ending.returned (.tuple #[.agg #[.int .i64 a, .int .u64 x], v]) = .returned (.tuple #[.agg #[.int .i64 a, .int .u64 y], v]) := by rw [h]
theorem or_val (b k : Nat) (hb : b < 18446744073709551616) (hk : k < 64) : bits .or .u64 (b : Int) (IntKind.u64.wrap (2 ^ k)) = ((b ||| 2 ^ k : Nat) : Int) := by
  have h2 : (2 : Nat) ^ k < 18446744073709551616 := Nat.lt_of_lt_of_le (Nat.pow_lt_pow_right (by omega) hk) (by decide)
  have e : IntKind.u64.wrap ((2 : Int) ^ k) = ((2 ^ k : Nat) : Int) := by
    rw [IntKind.wrap_u64, show ((2 : Int) ^ k) = ((2 ^ k : Nat) : Int) by simp]
    generalize 2 ^ k = y at h2
    omega
  rw [e, bits_or_u64_nat b _ hb h2]
theorem mark_core (s a : Int) (b : Nat) (d : Int) (x : Int) (h : chkE s a = 0) (hd : (a - s) % 4096 = d) (h0 : 0 ≤ d) (t : d < 64) (hx : bits .or .u64 b (IntKind.u64.wrap (2 ^ d.toNat)) = x) (w : World) : Calls Tryd.prog 12 #[.agg #[.int .i64 s, .int .u64 b], .int .i64 a] w fun e w' => e = .returned (.tuple #[.agg #[.int .i64 s, .int .u64 x], .int .i64 0]) ∧ Below w.heap.size w w' := by
  have HD := Lib.hid hd
  have HX := Lib.hid hx
  clear hd hx
  obtain ⟨rp, rq⟩ := fr_rows2 w (.cells #[.int .i64 s, .int .u64 b] 27) (.cells #[.int .i64 0, .int .u64 0] 27)
  have Rp0 := Lib.hid rp
  have Rq0 := Lib.hid rq
  clear rp rq
  go_enter Tryd.func12, Tryd.ntmps12
  go_wp2_with fail
  refine (wchk_any s a b _).mono ?_
  rintro e w1 ⟨rfl, hb1⟩
  have hB1 : Below w.heap.size w w1 := (((Below.refl _ _).alloc (by first | exact Nat.le_refl _ | (simp only [World.size_alloc]; omega)) _).alloc (by first | exact Nat.le_refl _ | (simp only [World.size_alloc]; omega)) _).trans (hb1.mono (by first | exact Nat.le_refl _ | (simp only [World.size_alloc]; omega)))
  have Rp1 := Lib.hid (row_below hb1 Rp0.out)
  have Rq1 := Lib.hid (row_below hb1 Rq0.out)
  clear hb1 Rp0 Rq0
  have p0w1 : w1.cell? ⟨w.heap.size, 0, none⟩ = some (.int .i64 s) := (cell_of_row _ _ _ _ _ _ Rp1.out).trans rfl
  have p1w1 : w1.cell? ⟨w.heap.size, 1, none⟩ = some (.int .u64 b) := (cell_of_row _ _ _ _ _ _ Rp1.out).trans rfl
  have pfw1 : ∀ o, w1.frozen? ⟨w.heap.size, o, none⟩ = false := fun o => frozen_of_row _ _ _ _ _ Rp1.out
  have py1 : w.heap.size < w1.heap.size := row_lt Rp1.out
  have q0w1 : w1.cell? ⟨w.heap.size + 1, 0, none⟩ = some (.int .i64 0) := (cell_of_row _ _ _ _ _ _ Rq1.out).trans rfl
  have q1w1 : w1.cell? ⟨w.heap.size + 1, 1, none⟩ = some (.int .u64 0) := (cell_of_row _ _ _ _ _ _ Rq1.out).trans rfl
  have qfw1 : ∀ o, w1.frozen? ⟨w.heap.size + 1, o, none⟩ = false := fun o => frozen_of_row _ _ _ _ _ Rq1.out
  have qy1 : w.heap.size + 1 < w1.heap.size := row_lt Rq1.out
  simp only [h]
  go_wp2_with fail
  refine (dist_any s a _).mono ?_
  rintro e w' ⟨rfl, rfl⟩
  simp only [HD.out]
  go_wp2_with fail
  go_region
  go_wp2
  refine bodyPost_ret (v := .tuple #[.agg #[.int .i64 s, .int .u64 (bits .or .u64 b (IntKind.u64.wrap (2 ^ d.toNat)))], .int .i64 0]) (by simp [results, Tryd.results12, go_sem, q0w1, q1w1, qfw1]) rfl ?_
  exact ⟨win_two HX.out, by go_grown⟩
def mkE (s a : Int) : Int := if chkE s a = 0 then (if (a - s) % 4096 < 64 then 0 else 21) else chkE s a
def mkS (s a : Int) : Int := if mkE s a = 0 then s else 0
def mkB (s a : Int) (b : Nat) : Nat := if mkE s a = 0 then b ||| 2 ^ ((a - s) % 4096).toNat else 0
theorem chkE_cases (s a : Int) : chkE s a = 0 ∨ chkE s a = 2 ∨ chkE s a = 8 := by simp only [chkE]; split <;> (try split) <;> simp
theorem mark_any (s a : Int) (b : Nat) (hb : b < 18446744073709551616) (w : World) : Calls Tryd.prog 12 #[.agg #[.int .i64 s, .int .u64 b], .int .i64 a] w fun e w' => e = .returned (.tuple #[.agg #[.int .i64 (mkS s a), .int .u64 (mkB s a b)], .int .i64 (mkE s a)]) ∧ Below w.heap.size w w' := by
  have h0 : 0 ≤ (a - s) % 4096 := Int.emod_nonneg _ (by omega)
  rcases chkE_cases s a with h | h | h
  · by_cases t : (a - s) % 4096 < 64
    · have := mark_core s a b _ _ h rfl h0 t (or_val b _ hb (by omega)) w
      simpa only [mkS, mkB, mkE, h, t, if_true] using this
    · have := mark_far s a b _ h rfl (by omega) w
      simpa [mkS, mkB, mkE, h, t] using this
  · have := mark_arg s a b h w
    simpa [mkS, mkB, mkE, h] using this
  · have := mark_bad s a b h w
    simpa [mkS, mkB, mkE, h] using this
theorem move_bad (s a : Int) (b : Nat) (h : chkE s a = 8) (w : World) : Calls Tryd.prog 13 #[.agg #[.int .i64 s, .int .u64 b], .int .i64 a] w fun e w' => e = .returned (.tuple #[.agg #[.int .i64 0, .int .u64 0], .int .i64 8]) ∧ Below w.heap.size w w' := by
  obtain ⟨rp, rq⟩ := fr_rows2 w (.cells #[.int .i64 s, .int .u64 b] 27) (.cells #[.int .i64 0, .int .u64 0] 27)
  have Rp0 := Lib.hid rp
  have Rq0 := Lib.hid rq
  clear rp rq
  go_enter Tryd.func13, Tryd.ntmps13
  go_wp2_with fail
  refine (wchk_any s a b _).mono ?_
  rintro e w1 ⟨rfl, hb1⟩
  have hB1 : Below w.heap.size w w1 := (((Below.refl _ _).alloc (by first | exact Nat.le_refl _ | (simp only [World.size_alloc]; omega)) _).alloc (by first | exact Nat.le_refl _ | (simp only [World.size_alloc]; omega)) _).trans (hb1.mono (by first | exact Nat.le_refl _ | (simp only [World.size_alloc]; omega)))
  have Rp1 := Lib.hid (row_below hb1 Rp0.out)
  have Rq1 := Lib.hid (row_below hb1 Rq0.out)
  clear hb1 Rp0 Rq0
  have p0w1 : w1.cell? ⟨w.heap.size, 0, none⟩ = some (.int .i64 s) := (cell_of_row _ _ _ _ _ _ Rp1.out).trans rfl
  have p1w1 : w1.cell? ⟨w.heap.size, 1, none⟩ = some (.int .u64 b) := (cell_of_row _ _ _ _ _ _ Rp1.out).trans rfl
  have pfw1 : ∀ o, w1.frozen? ⟨w.heap.size, o, none⟩ = false := fun o => frozen_of_row _ _ _ _ _ Rp1.out
  have py1 : w.heap.size < w1.heap.size := row_lt Rp1.out
  have q0w1 : w1.cell? ⟨w.heap.size + 1, 0, none⟩ = some (.int .i64 0) := (cell_of_row _ _ _ _ _ _ Rq1.out).trans rfl
  have q1w1 : w1.cell? ⟨w.heap.size + 1, 1, none⟩ = some (.int .u64 0) := (cell_of_row _ _ _ _ _ _ Rq1.out).trans rfl
  have qfw1 : ∀ o, w1.frozen? ⟨w.heap.size + 1, o, none⟩ = false := fun o => frozen_of_row _ _ _ _ _ Rq1.out
  have qy1 : w.heap.size + 1 < w1.heap.size := row_lt Rq1.out
  simp only [h]
  go_wp2
  refine bodyPost_ret (v := .tuple #[.agg #[.int .i64 0, .int .u64 0], .int .i64 8]) (by simp [results, Tryd.results13, go_sem, q0w1, q1w1]) rfl ?_
  exact ⟨rfl, by go_grown⟩
theorem move_arg (s a : Int) (b : Nat) (h : chkE s a = 2) (w : World) : Calls Tryd.prog 13 #[.agg #[.int .i64 s, .int .u64 b], .int .i64 a] w fun e w' => e = .returned (.tuple #[.agg #[.int .i64 0, .int .u64 0], .int .i64 2]) ∧ Below w.heap.size w w' := by
  obtain ⟨rp, rq⟩ := fr_rows2 w (.cells #[.int .i64 s, .int .u64 b] 27) (.cells #[.int .i64 0, .int .u64 0] 27)
  have Rp0 := Lib.hid rp
  have Rq0 := Lib.hid rq
  clear rp rq
  go_enter Tryd.func13, Tryd.ntmps13
  go_wp2_with fail
  refine (wchk_any s a b _).mono ?_
  rintro e w1 ⟨rfl, hb1⟩
  have hB1 : Below w.heap.size w w1 := (((Below.refl _ _).alloc (by first | exact Nat.le_refl _ | (simp only [World.size_alloc]; omega)) _).alloc (by first | exact Nat.le_refl _ | (simp only [World.size_alloc]; omega)) _).trans (hb1.mono (by first | exact Nat.le_refl _ | (simp only [World.size_alloc]; omega)))
  have Rp1 := Lib.hid (row_below hb1 Rp0.out)
  have Rq1 := Lib.hid (row_below hb1 Rq0.out)
  clear hb1 Rp0 Rq0
  have p0w1 : w1.cell? ⟨w.heap.size, 0, none⟩ = some (.int .i64 s) := (cell_of_row _ _ _ _ _ _ Rp1.out).trans rfl
  have p1w1 : w1.cell? ⟨w.heap.size, 1, none⟩ = some (.int .u64 b) := (cell_of_row _ _ _ _ _ _ Rp1.out).trans rfl
  have pfw1 : ∀ o, w1.frozen? ⟨w.heap.size, o, none⟩ = false := fun o => frozen_of_row _ _ _ _ _ Rp1.out
  have py1 : w.heap.size < w1.heap.size := row_lt Rp1.out
  have q0w1 : w1.cell? ⟨w.heap.size + 1, 0, none⟩ = some (.int .i64 0) := (cell_of_row _ _ _ _ _ _ Rq1.out).trans rfl
  have q1w1 : w1.cell? ⟨w.heap.size + 1, 1, none⟩ = some (.int .u64 0) := (cell_of_row _ _ _ _ _ _ Rq1.out).trans rfl
  have qfw1 : ∀ o, w1.frozen? ⟨w.heap.size + 1, o, none⟩ = false := fun o => frozen_of_row _ _ _ _ _ Rq1.out
  have qy1 : w.heap.size + 1 < w1.heap.size := row_lt Rq1.out
  simp only [h]
  go_wp2
  refine bodyPost_ret (v := .tuple #[.agg #[.int .i64 0, .int .u64 0], .int .i64 2]) (by simp [results, Tryd.results13, go_sem, q0w1, q1w1]) rfl ?_
  exact ⟨rfl, by go_grown⟩
theorem move_on (s a : Int) (b : Nat) (d : Int) (x : Int) (h : chkE s a = 0) (hd : (a - s) % 4096 = d) (h0 : 0 ≤ d) (t : d < 2048) (hs : Op.shift .shr .u64 (b : Int) .i64 d = pure (.int .u64 x)) (w : World) : Calls Tryd.prog 13 #[.agg #[.int .i64 s, .int .u64 b], .int .i64 a] w fun e w' => e = .returned (.tuple #[.agg #[.int .i64 a, .int .u64 x], .int .i64 0]) ∧ Below w.heap.size w w' := by
  have HD := Lib.hid hd
  clear hd
  obtain ⟨rp, rq⟩ := fr_rows2 w (.cells #[.int .i64 s, .int .u64 b] 27) (.cells #[.int .i64 0, .int .u64 0] 27)
  have Rp0 := Lib.hid rp
  have Rq0 := Lib.hid rq
  clear rp rq
  go_enter Tryd.func13, Tryd.ntmps13
  go_wp2_with fail
  refine (wchk_any s a b _).mono ?_
  rintro e w1 ⟨rfl, hb1⟩
  have hB1 : Below w.heap.size w w1 := (((Below.refl _ _).alloc (by first | exact Nat.le_refl _ | (simp only [World.size_alloc]; omega)) _).alloc (by first | exact Nat.le_refl _ | (simp only [World.size_alloc]; omega)) _).trans (hb1.mono (by first | exact Nat.le_refl _ | (simp only [World.size_alloc]; omega)))
  have Rp1 := Lib.hid (row_below hb1 Rp0.out)
  have Rq1 := Lib.hid (row_below hb1 Rq0.out)
  clear hb1 Rp0 Rq0
  have p0w1 : w1.cell? ⟨w.heap.size, 0, none⟩ = some (.int .i64 s) := (cell_of_row _ _ _ _ _ _ Rp1.out).trans rfl
  have p1w1 : w1.cell? ⟨w.heap.size, 1, none⟩ = some (.int .u64 b) := (cell_of_row _ _ _ _ _ _ Rp1.out).trans rfl
  have pfw1 : ∀ o, w1.frozen? ⟨w.heap.size, o, none⟩ = false := fun o => frozen_of_row _ _ _ _ _ Rp1.out
  have py1 : w.heap.size < w1.heap.size := row_lt Rp1.out
  have q0w1 : w1.cell? ⟨w.heap.size + 1, 0, none⟩ = some (.int .i64 0) := (cell_of_row _ _ _ _ _ _ Rq1.out).trans rfl
  have q1w1 : w1.cell? ⟨w.heap.size + 1, 1, none⟩ = some (.int .u64 0) := (cell_of_row _ _ _ _ _ _ Rq1.out).trans rfl
  have qfw1 : ∀ o, w1.frozen? ⟨w.heap.size + 1, o, none⟩ = false := fun o => frozen_of_row _ _ _ _ _ Rq1.out
  have qy1 : w.heap.size + 1 < w1.heap.size := row_lt Rq1.out
  simp only [h]
  go_wp2_with fail
  refine (dist_any s a _).mono ?_
  rintro e w' ⟨rfl, rfl⟩
  simp only [HD.out]
  go_wp2
  have f0 := below_kept ((Below.refl _ _).alloc (Nat.le_refl _) (.cells #[.int .i64 a, .int .u64 x] 27)) (show ((w1.setCell ⟨w.heap.size + 1, 0, none⟩ (.int .i64 a)).setCell ⟨w.heap.size + 1, 1, none⟩ (.int .u64 x)).cell? ⟨w.heap.size + 1, 0, none⟩ = some (.int .i64 a) by simp [go_sem, q0w1, q1w1])
  have f1 := below_kept ((Below.refl _ _).alloc (Nat.le_refl _) (.cells #[.int .i64 a, .int .u64 x] 27)) (show ((w1.setCell ⟨w.heap.size + 1, 0, none⟩ (.int .i64 a)).setCell ⟨w.heap.size + 1, 1, none⟩ (.int .u64 x)).cell? ⟨w.heap.size + 1, 1, none⟩ = some (.int .u64 x) by simp [go_sem, q0w1, q1w1])
  refine bodyPost_ret (v := .tuple #[.agg #[.int .i64 a, .int .u64 x], .int .i64 0]) (by simp [results, Tryd.results13, go_sem, f0, f1]) rfl ?_
  exact ⟨rfl, by go_grown⟩
theorem move_back (s a : Int) (b : Nat) (d : Int) (x : Int) (h : chkE s a = 0) (hd : (a - s) % 4096 = d) (h0 : d < 4096) (t : 2048 ≤ d) (hs : Op.shift .shl .u64 (b : Int) .i64 (4096 - d) = pure (.int .u64 x)) (w : World) : Calls Tryd.prog 13 #[.agg #[.int .i64 s, .int .u64 b], .int .i64 a] w fun e w' => e = .returned (.tuple #[.agg #[.int .i64 a, .int .u64 x], .int .i64 0]) ∧ Below w.heap.size w w' := by
  have HD := Lib.hid hd
  clear hd
  obtain ⟨rp, rq⟩ := fr_rows2 w (.cells #[.int .i64 s, .int .u64 b] 27) (.cells #[.int .i64 0, .int .u64 0] 27)
  have Rp0 := Lib.hid rp
  have Rq0 := Lib.hid rq
  clear rp rq
  go_enter Tryd.func13, Tryd.ntmps13
  go_wp2_with fail
  refine (wchk_any s a b _).mono ?_
  rintro e w1 ⟨rfl, hb1⟩
  have hB1 : Below w.heap.size w w1 := (((Below.refl _ _).alloc (by first | exact Nat.le_refl _ | (simp only [World.size_alloc]; omega)) _).alloc (by first | exact Nat.le_refl _ | (simp only [World.size_alloc]; omega)) _).trans (hb1.mono (by first | exact Nat.le_refl _ | (simp only [World.size_alloc]; omega)))
  have Rp1 := Lib.hid (row_below hb1 Rp0.out)
  have Rq1 := Lib.hid (row_below hb1 Rq0.out)
  clear hb1 Rp0 Rq0
  have p0w1 : w1.cell? ⟨w.heap.size, 0, none⟩ = some (.int .i64 s) := (cell_of_row _ _ _ _ _ _ Rp1.out).trans rfl
  have p1w1 : w1.cell? ⟨w.heap.size, 1, none⟩ = some (.int .u64 b) := (cell_of_row _ _ _ _ _ _ Rp1.out).trans rfl
  have pfw1 : ∀ o, w1.frozen? ⟨w.heap.size, o, none⟩ = false := fun o => frozen_of_row _ _ _ _ _ Rp1.out
  have py1 : w.heap.size < w1.heap.size := row_lt Rp1.out
  have q0w1 : w1.cell? ⟨w.heap.size + 1, 0, none⟩ = some (.int .i64 0) := (cell_of_row _ _ _ _ _ _ Rq1.out).trans rfl
  have q1w1 : w1.cell? ⟨w.heap.size + 1, 1, none⟩ = some (.int .u64 0) := (cell_of_row _ _ _ _ _ _ Rq1.out).trans rfl
  have qfw1 : ∀ o, w1.frozen? ⟨w.heap.size + 1, o, none⟩ = false := fun o => frozen_of_row _ _ _ _ _ Rq1.out
  have qy1 : w.heap.size + 1 < w1.heap.size := row_lt Rq1.out
  simp only [h]
  go_wp2_with fail
  refine (dist_any s a _).mono ?_
  rintro e w' ⟨rfl, rfl⟩
  simp only [HD.out]
  go_wp2
  have f0 := below_kept ((Below.refl _ _).alloc (Nat.le_refl _) (.cells #[.int .i64 a, .int .u64 x] 27)) (show ((w1.setCell ⟨w.heap.size + 1, 0, none⟩ (.int .i64 a)).setCell ⟨w.heap.size + 1, 1, none⟩ (.int .u64 x)).cell? ⟨w.heap.size + 1, 0, none⟩ = some (.int .i64 a) by simp [go_sem, q0w1, q1w1])
  have f1 := below_kept ((Below.refl _ _).alloc (Nat.le_refl _) (.cells #[.int .i64 a, .int .u64 x] 27)) (show ((w1.setCell ⟨w.heap.size + 1, 0, none⟩ (.int .i64 a)).setCell ⟨w.heap.size + 1, 1, none⟩ (.int .u64 x)).cell? ⟨w.heap.size + 1, 1, none⟩ = some (.int .u64 x) by simp [go_sem, q0w1, q1w1])
  refine bodyPost_ret (v := .tuple #[.agg #[.int .i64 a, .int .u64 x], .int .i64 0]) (by simp [results, Tryd.results13, go_sem, f0, f1]) rfl ?_
  exact ⟨rfl, by go_grown⟩
theorem shr_num (b k : Nat) (hb : b < 18446744073709551616) : (b : Int) / 2 ^ min k 64 = ((b >>> k : Nat) : Int) := by
  rw [Nat.shiftRight_eq_div_pow]
  by_cases h : k ≤ 64
  · rw [Nat.min_eq_left h]; simp
  · rw [Nat.min_eq_right (by omega)]
    have e1 : b / 2 ^ k = 0 := Nat.div_eq_of_lt (Nat.lt_of_lt_of_le hb (Nat.le_trans (show 18446744073709551616 ≤ 2 ^ 64 by decide) (Nat.pow_le_pow_right (by omega) (by omega))))
    rw [e1, show ((2:Int)^64) = 18446744073709551616 by decide]
    omega
theorem shl_num (b k : Nat) : IntKind.u64.wrap ((b : Int) * 2 ^ min k 64) = ((b * 2 ^ k % 18446744073709551616 : Nat) : Int) := by
  rw [IntKind.wrap_u64]
  by_cases h : k ≤ 64
  · rw [Nat.min_eq_left h]
    simp
  · rw [Nat.min_eq_right (by omega)]
    have e1 : b * 2 ^ k % 18446744073709551616 = 0 := by
      have : k = 64 + (k - 64) := by omega
      rw [this, Nat.pow_add, show (2:Nat)^64 = 18446744073709551616 by decide, ← Nat.mul_assoc, Nat.mul_right_comm]
      exact Nat.mul_mod_left _ _
    rw [e1, show ((2:Int)^64) = 18446744073709551616 by decide]
    simp
def mvS (s a : Int) : Int := if chkE s a = 0 then a else 0
def mvB (s a : Int) (b : Nat) : Nat := if chkE s a = 0 then (if (a - s) % 4096 < 2048 then b >>> ((a - s) % 4096).toNat else b * 2 ^ (4096 - (a - s) % 4096).toNat % 18446744073709551616) else 0
theorem move_any (s a : Int) (b : Nat) (hb : b < 18446744073709551616) (w : World) : Calls Tryd.prog 13 #[.agg #[.int .i64 s, .int .u64 b], .int .i64 a] w fun e w' => e = .returned (.tuple #[.agg #[.int .i64 (mvS s a), .int .u64 (mvB s a b)], .int .i64 (chkE s a)]) ∧ Below w.heap.size w w' := by
  have h0 : 0 ≤ (a - s) % 4096 := Int.emod_nonneg _ (by omega)
  have h1 : (a - s) % 4096 < 4096 := Int.emod_lt_of_pos _ (by omega)
  rcases chkE_cases s a with h | h | h
  · by_cases t : (a - s) % 4096 < 2048
    · have := move_on s a b _ ((b >>> ((a - s) % 4096).toNat : Nat) : Int) h rfl h0 t (by rw [shift_shr_any _ _ _ _ h0]; exact congrArg (fun z => pure (Value.int .u64 z)) (shr_num b _ hb)) w
      simpa only [mvS, mvB, h, t, if_true] using this
    · have := move_back s a b _ ((b * 2 ^ (4096 - (a - s) % 4096).toNat % 18446744073709551616 : Nat) : Int) h rfl h1 (by omega) (by rw [shift_shl_any _ _ _ _ (by omega)]; exact congrArg (fun z => pure (Value.int .u64 z)) (shl_num b _)) w
      simpa only [mvS, mvB, h, t, if_true, if_false] using this
  · have := move_arg s a b h w
    simpa [mvS, mvB, h] using this
  · have := move_bad s a b h w
    simpa [mvS, mvB, h] using this
theorem first_bad (s n : Int) (b x z : Nat) (hx : x < 18446744073709551616) (hnot : bits .xor .u64 IntKind.u64.max (b : Int) = (x : Int)) (hz : Lib.ctz 64 x = z) (h : winE s = 8) (w : World) (T : Bru w) : Calls Tryd.prog 14 #[.agg #[.int .i64 s, .int .u64 b], .int .i64 n] w fun e w' => e = .returned (.tuple #[.int .i64 0, .bool false]) ∧ Below w.heap.size w w' := by
  have HNOT := Lib.hid hnot
  have HZ := Lib.hid hz
  clear hnot hz
  have Rp0 := Lib.hid (fr_rows1 w (.cells #[.int .i64 s, .int .u64 b] 27))
  go_enter Tryd.func14, Tryd.ntmps14
  go_wp2_with fail
  rw [HNOT.out]
  refine (tz_any x hx _ T.alloc).mono ?_
  rintro e w' ⟨rfl, rfl⟩
  simp only [HZ.out]
  go_wp2_with fail
  refine (wcheck_any s b _).mono ?_
  rintro e w1 ⟨rfl, hb1⟩
  have hB1 : Below w.heap.size w w1 := ((Below.refl _ _).alloc (by first | exact Nat.le_refl _ | (simp only [World.size_alloc]; omega)) _).trans (hb1.mono (by first | exact Nat.le_refl _ | (simp only [World.size_alloc]; omega)))
  have Rp1 := Lib.hid (row_below hb1 Rp0.out)
  clear hb1 Rp0
  have p0w1 : w1.cell? ⟨w.heap.size, 0, none⟩ = some (.int .i64 s) := (cell_of_row _ _ _ _ _ _ Rp1.out).trans rfl
  have p1w1 : w1.cell? ⟨w.heap.size, 1, none⟩ = some (.int .u64 b) := (cell_of_row _ _ _ _ _ _ Rp1.out).trans rfl
  have pfw1 : ∀ o, w1.frozen? ⟨w.heap.size, o, none⟩ = false := fun o => frozen_of_row _ _ _ _ _ Rp1.out
  have py1 : w.heap.size < w1.heap.size := row_lt Rp1.out
  simp only [h]
  go_wp2
  go_ret2
  exact ⟨rfl, hB1⟩
theorem first_low (s n : Int) (b x z : Nat) (hx : x < 18446744073709551616) (hnot : bits .xor .u64 IntKind.u64.max (b : Int) = (x : Int)) (hz : Lib.ctz 64 x = z) (h : winE s = 0) (h1 : n < 1) (w : World) (T : Bru w) : Calls Tryd.prog 14 #[.agg #[.int .i64 s, .int .u64 b], .int .i64 n] w fun e w' => e = .returned (.tuple #[.int .i64 0, .bool false]) ∧ Below w.heap.size w w' := by
  have HNOT := Lib.hid hnot
  have HZ := Lib.hid hz
  clear hnot hz
  have Rp0 := Lib.hid (fr_rows1 w (.cells #[.int .i64 s, .int .u64 b] 27))
  go_enter Tryd.func14, Tryd.ntmps14
  go_wp2_with fail
  rw [HNOT.out]
  refine (tz_any x hx _ T.alloc).mono ?_
  rintro e w' ⟨rfl, rfl⟩
  simp only [HZ.out]
  go_wp2_with fail
  refine (wcheck_any s b _).mono ?_
  rintro e w1 ⟨rfl, hb1⟩
  have hB1 : Below w.heap.size w w1 := ((Below.refl _ _).alloc (by first | exact Nat.le_refl _ | (simp only [World.size_alloc]; omega)) _).trans (hb1.mono (by first | exact Nat.le_refl _ | (simp only [World.size_alloc]; omega)))
  have Rp1 := Lib.hid (row_below hb1 Rp0.out)
  clear hb1 Rp0
  have p0w1 : w1.cell? ⟨w.heap.size, 0, none⟩ = some (.int .i64 s) := (cell_of_row _ _ _ _ _ _ Rp1.out).trans rfl
  have p1w1 : w1.cell? ⟨w.heap.size, 1, none⟩ = some (.int .u64 b) := (cell_of_row _ _ _ _ _ _ Rp1.out).trans rfl
  have pfw1 : ∀ o, w1.frozen? ⟨w.heap.size, o, none⟩ = false := fun o => frozen_of_row _ _ _ _ _ Rp1.out
  have py1 : w.heap.size < w1.heap.size := row_lt Rp1.out
  simp only [h]
  go_wp2
  go_ret2
  exact ⟨rfl, hB1⟩
theorem first_high (s n : Int) (b x z : Nat) (hx : x < 18446744073709551616) (hnot : bits .xor .u64 IntKind.u64.max (b : Int) = (x : Int)) (hz : Lib.ctz 64 x = z) (h : winE s = 0) (h1 : 1 ≤ n) (h2 : 64 < n) (w : World) (T : Bru w) : Calls Tryd.prog 14 #[.agg #[.int .i64 s, .int .u64 b], .int .i64 n] w fun e w' => e = .returned (.tuple #[.int .i64 0, .bool false]) ∧ Below w.heap.size w w' := by
  have HNOT := Lib.hid hnot
  have HZ := Lib.hid hz
  clear hnot hz
  have Rp0 := Lib.hid (fr_rows1 w (.cells #[.int .i64 s, .int .u64 b] 27))
  go_enter Tryd.func14, Tryd.ntmps14
  go_wp2_with fail
  rw [HNOT.out]
  refine (tz_any x hx _ T.alloc).mono ?_
  rintro e w' ⟨rfl, rfl⟩
  simp only [HZ.out]
  go_wp2_with fail
  refine (wcheck_any s b _).mono ?_
  rintro e w1 ⟨rfl, hb1⟩
  have hB1 : Below w.heap.size w w1 := ((Below.refl _ _).alloc (by first | exact Nat.le_refl _ | (simp only [World.size_alloc]; omega)) _).trans (hb1.mono (by first | exact Nat.le_refl _ | (simp only [World.size_alloc]; omega)))
  have Rp1 := Lib.hid (row_below hb1 Rp0.out)
  clear hb1 Rp0
  have p0w1 : w1.cell? ⟨w.heap.size, 0, none⟩ = some (.int .i64 s) := (cell_of_row _ _ _ _ _ _ Rp1.out).trans rfl
  have p1w1 : w1.cell? ⟨w.heap.size, 1, none⟩ = some (.int .u64 b) := (cell_of_row _ _ _ _ _ _ Rp1.out).trans rfl
  have pfw1 : ∀ o, w1.frozen? ⟨w.heap.size, o, none⟩ = false := fun o => frozen_of_row _ _ _ _ _ Rp1.out
  have py1 : w.heap.size < w1.heap.size := row_lt Rp1.out
  simp only [h]
  go_wp2
  go_ret2
  exact ⟨rfl, hB1⟩
theorem first_full (s n : Int) (b x z : Nat) (hx : x < 18446744073709551616) (hnot : bits .xor .u64 IntKind.u64.max (b : Int) = (x : Int)) (hz : Lib.ctz 64 x = z) (h : winE s = 0) (h1 : 1 ≤ n) (h2 : n ≤ 64) (h3 : n ≤ (z : Int)) (w : World) (T : Bru w) : Calls Tryd.prog 14 #[.agg #[.int .i64 s, .int .u64 b], .int .i64 n] w fun e w' => e = .returned (.tuple #[.int .i64 0, .bool false]) ∧ Below w.heap.size w w' := by
  have HNOT := Lib.hid hnot
  have HZ := Lib.hid hz
  clear hnot hz
  have Rp0 := Lib.hid (fr_rows1 w (.cells #[.int .i64 s, .int .u64 b] 27))
  go_enter Tryd.func14, Tryd.ntmps14
  go_wp2_with fail
  rw [HNOT.out]
  refine (tz_any x hx _ T.alloc).mono ?_
  rintro e w' ⟨rfl, rfl⟩
  simp only [HZ.out]
  go_wp2_with fail
  refine (wcheck_any s b _).mono ?_
  rintro e w1 ⟨rfl, hb1⟩
  have hB1 : Below w.heap.size w w1 := ((Below.refl _ _).alloc (by first | exact Nat.le_refl _ | (simp only [World.size_alloc]; omega)) _).trans (hb1.mono (by first | exact Nat.le_refl _ | (simp only [World.size_alloc]; omega)))
  have Rp1 := Lib.hid (row_below hb1 Rp0.out)
  clear hb1 Rp0
  have p0w1 : w1.cell? ⟨w.heap.size, 0, none⟩ = some (.int .i64 s) := (cell_of_row _ _ _ _ _ _ Rp1.out).trans rfl
  have p1w1 : w1.cell? ⟨w.heap.size, 1, none⟩ = some (.int .u64 b) := (cell_of_row _ _ _ _ _ _ Rp1.out).trans rfl
  have pfw1 : ∀ o, w1.frozen? ⟨w.heap.size, o, none⟩ = false := fun o => frozen_of_row _ _ _ _ _ Rp1.out
  have py1 : w.heap.size < w1.heap.size := row_lt Rp1.out
  simp only [h]
  go_wp2
  go_ret2
  exact ⟨rfl, hB1⟩
theorem first_found (s n : Int) (b x z : Nat) (hx : x < 18446744073709551616) (hnot : bits .xor .u64 IntKind.u64.max (b : Int) = (x : Int)) (hz : Lib.ctz 64 x = z) (h : winE s = 0) (h1 : 1 ≤ n) (h2 : n ≤ 64) (h3 : (z : Int) < n) (w : World) (T : Bru w) : Calls Tryd.prog 14 #[.agg #[.int .i64 s, .int .u64 b], .int .i64 n] w fun e w' => e = .returned (.tuple #[.int .i64 ((s + z) % 4096), .bool true]) ∧ Below w.heap.size w w' := by
  have HNOT := Lib.hid hnot
  have HZ := Lib.hid hz
  clear hnot hz
  have Rp0 := Lib.hid (fr_rows1 w (.cells #[.int .i64 s, .int .u64 b] 27))
  go_enter Tryd.func14, Tryd.ntmps14
  go_wp2_with fail
  rw [HNOT.out]
  refine (tz_any x hx _ T.alloc).mono ?_
  rintro e w' ⟨rfl, rfl⟩
  simp only [HZ.out]
  go_wp2_with fail
  refine (wcheck_any s b _).mono ?_
  rintro e w1 ⟨rfl, hb1⟩
  have hB1 : Below w.heap.size w w1 := ((Below.refl _ _).alloc (by first | exact Nat.le_refl _ | (simp only [World.size_alloc]; omega)) _).trans (hb1.mono (by first | exact Nat.le_refl _ | (simp only [World.size_alloc]; omega)))
  have Rp1 := Lib.hid (row_below hb1 Rp0.out)
  clear hb1 Rp0
  have p0w1 : w1.cell? ⟨w.heap.size, 0, none⟩ = some (.int .i64 s) := (cell_of_row _ _ _ _ _ _ Rp1.out).trans rfl
  have p1w1 : w1.cell? ⟨w.heap.size, 1, none⟩ = some (.int .u64 b) := (cell_of_row _ _ _ _ _ _ Rp1.out).trans rfl
  have pfw1 : ∀ o, w1.frozen? ⟨w.heap.size, o, none⟩ = false := fun o => frozen_of_row _ _ _ _ _ Rp1.out
  have py1 : w.heap.size < w1.heap.size := row_lt Rp1.out
  simp only [h]
  go_wp2_with fail
  refine (add_any s z _).mono ?_
  rintro e w' ⟨rfl, rfl⟩
  go_wp2
  go_ret2
  exact ⟨rfl, hB1⟩
/-- The first number that is not marked, counted from the window's start. -/
def fz (b : Nat) : Nat := Lib.ctz 64 (18446744073709551615 ^^^ b)
def fiB (s n : Int) (b : Nat) : Bool := decide (winE s = 0 ∧ 1 ≤ n ∧ n ≤ 64 ∧ (fz b : Int) < n)
def fiN (s n : Int) (b : Nat) : Int := if fiB s n b then (s + fz b) % 4096 else 0
theorem not_val (b : Nat) (hb : b < 18446744073709551616) : bits .xor .u64 IntKind.u64.max (b : Int) = ((18446744073709551615 ^^^ b : Nat) : Int) := by
  have e : IntKind.u64.max = ((18446744073709551615 : Nat) : Int) := by decide
  rw [e, bits_xor_u64_nat _ _ (by omega) hb]
theorem first_any (s n : Int) (b : Nat) (hb : b < 18446744073709551616) (w : World) (T : Bru w) : Calls Tryd.prog 14 #[.agg #[.int .i64 s, .int .u64 b], .int .i64 n] w fun e w' => e = .returned (.tuple #[.int .i64 (fiN s n b), .bool (fiB s n b)]) ∧ Below w.heap.size w w' := by
  have hx : 18446744073709551615 ^^^ b < 18446744073709551616 := Nat.xor_lt_two_pow (n := 64) (by omega) hb
  have hv := not_val b hb
  have key : ∀ (v : Bool), fiB s n b = v → fiN s n b = (if v then (s + fz b) % 4096 else 0) := fun v h => by simp only [fiN, h]
  rcases winE_two s with h | h
  · by_cases h1 : 1 ≤ n
    · by_cases h2 : n ≤ 64
      · by_cases h3 : (fz b : Int) < n
        · have hf : fiB s n b = true := by simp [fiB, h, h1, h2, h3]
          rw [key _ hf, hf]
          exact first_found s n b _ _ hx hv rfl h h1 h2 h3 w T
        · have hf : fiB s n b = false := by simp only [fiB, decide_eq_false_iff_not]; omega
          rw [key _ hf, hf]
          exact first_full s n b _ _ hx hv rfl h h1 h2 (by simp only [fz] at h3; omega) w T
      · have hf : fiB s n b = false := by simp only [fiB, decide_eq_false_iff_not]; omega
        rw [key _ hf, hf]
        exact first_high s n b _ _ hx hv rfl h h1 (by omega) w T
    · have hf : fiB s n b = false := by simp only [fiB, decide_eq_false_iff_not]; omega
      rw [key _ hf, hf]
      exact first_low s n b _ _ hx hv rfl h (by omega) w T
  · have hf : fiB s n b = false := by simp only [fiB, decide_eq_false_iff_not]; omega
    rw [key _ hf, hf]
    exact first_bad s n b _ _ hx hv rfl h w T
end Go.Proofs.YtclahaafpiekeaaDoor
