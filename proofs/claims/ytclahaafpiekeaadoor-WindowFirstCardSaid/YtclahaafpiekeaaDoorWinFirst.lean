/-
  The walk of WindowFirst: First is the first number that is not marked.
-/
import Derived.Test.YtclahaafpiekeaaDoorWinAlive
import Derived.Deep.RegionHeldLaw
namespace Go.Proofs.YtclahaafpiekeaaDoor.windowFirst
open Go.ChangeShapes Go.WideShapes Go.ChangeAt Go.RowKit

theorem bit_not (b i : Nat) (hi : i < 64) : (18446744073709551615 ^^^ b).testBit i = !b.testBit i := by
  rw [Nat.testBit_xor, show (18446744073709551615 : Nat) = 2 ^ 64 - 1 by decide, Nat.testBit_two_pow_sub_one]
  simp [hi]
/-- Below the first number that is not marked, all are. -/
theorem fz_below (b i : Nat) (hb : b < 18446744073709551616) (hi : i < 64) (h : i < fz b) : b.testBit i = true := by
  have hx : 18446744073709551615 ^^^ b < 2 ^ 64 := Nat.xor_lt_two_pow (n := 64) (by omega) hb
  have e : (18446744073709551615 ^^^ b).testBit i = false := by
    simp only [fz, Lib.ctz] at h
    split at h
    · rename_i h0; rw [h0]; simp
    · rename_i h0
      obtain ⟨m, hm, hk⟩ := Lib.ctzFrom_spec 64 _ (by omega) hx
      rw [hm, Nat.testBit_two_pow_mul]
      have : decide (i ≥ Lib.ctzFrom 64 (18446744073709551615 ^^^ b)) = false := by simp; omega
      rw [this, Bool.false_and]
  rw [bit_not b i hi] at e
  simpa using e
theorem fz_at (b : Nat) (hb : b < 18446744073709551616) (h : fz b < 64) : b.testBit (fz b) = false := by
  have hx : 18446744073709551615 ^^^ b < 2 ^ 64 := Nat.xor_lt_two_pow (n := 64) (by omega) hb
  have e : (18446744073709551615 ^^^ b).testBit (fz b) = true := by
    have h' := h
    simp only [fz, Lib.ctz] at h'
    split at h'
    · omega
    · rename_i h0
      obtain ⟨m, hm, hk⟩ := Lib.ctzFrom_spec 64 _ (by omega) hx
      have e1 : fz b = Lib.ctzFrom 64 (18446744073709551615 ^^^ b) := by simp only [fz, Lib.ctz, if_neg h0]
      rw [e1]
      generalize Lib.ctzFrom 64 (18446744073709551615 ^^^ b) = k at *
      rw [hm, Nat.testBit_two_pow_mul]
      simp
  rw [bit_not b _ h] at e
  simpa using e
/-- How many of the first k numbers are marked. -/
def cnt (b : Nat) : Nat → Nat
  | 0 => 0
  | k + 1 => cnt b k + if b.testBit k then 1 else 0
theorem cnt_le (b : Nat) : ∀ k, cnt b k ≤ k
  | 0 => Nat.le_refl _
  | k + 1 => by have := cnt_le b k; simp only [cnt]; split <;> omega
theorem cnt_all (b : Nat) : ∀ k, (∀ i, i < k → b.testBit i = true) → cnt b k = k
  | 0, _ => rfl
  | k + 1, h => by
    have := cnt_all b k (fun i hi => h i (by omega))
    simp only [cnt, h k (by omega), if_true, this]
theorem cnt_lt (b : Nat) : ∀ k i, i < k → b.testBit i = false → cnt b k < k
  | 0, i, hi, _ => by omega
  | k + 1, i, hi, h => by
    simp only [cnt]
    by_cases e : i = k
    · subst e
      have := cnt_le b i
      rw [h]; simp; omega
    · have := cnt_lt b k i (by omega) h
      split <;> omega
theorem win_of {s : Int} (h : winE s = 0) : 0 ≤ s ∧ s < 4096 := by
  by_cases hs : 0 ≤ s ∧ s < 4096
  · exact hs
  · rw [winE, numB_no hs] at h
    exact absurd h (by simp)
/-- The marks of the window's first 64 numbers. -/
theorem has_bit (s : Int) (b k : Nat) (h : winE s = 0) (hk : k < 64) : hasB s ((s + k) % 4096) b = b.testBit k := by
  have hs := win_of h
  have ha : 0 ≤ (s + (k : Int)) % 4096 ∧ (s + (k : Int)) % 4096 < 4096 := ⟨Int.emod_nonneg _ (by omega), Int.emod_lt_of_pos _ (by omega)⟩
  have e : ((s + (k : Int)) % 4096 - s) % 4096 = k := by
    rw [Int.emod_sub_emod, show s + (k : Int) - s = k by omega]; omega
  have hc : chkE s ((s + (k : Int)) % 4096) = 0 := by simp [chkE, numB_yes hs, numB_yes ha]
  simp only [hasB, hc, e, decide_true, Bool.true_and]
  have : decide ((k : Int) < 64) = true := by simp; omega
  rw [this, Bool.true_and, Int.toNat_natCast]

set_option maxHeartbeats 8000000 in
set_option maxRecDepth 100000 in
theorem bad (s n : Int) (b : Nat) (hb : b < 18446744073709551616) (h : winE s = 8 ∨ (winE s = 0 ∧ n < 1) ∨ (winE s = 0 ∧ 1 ≤ n ∧ 64 < n)) (w : World) (T : Bru w) :
    Calls Tryd.prog 7 #[.agg #[.int .i64 s, .int .u64 b], .int .i64 n] w fun e w' => e = .returned (.bool true) ∧ Below w.heap.size w w' := by
  have hB0 : fiB s n b = false := by simp only [fiB, decide_eq_false_iff_not]; omega
  have hN0 : fiN s n b = 0 := by simp [fiN, hB0]
  have HB := Lib.hid hB0
  have HN := Lib.hid hN0
  clear hB0 hN0
  rcases h with h | ⟨h, h1⟩ | ⟨h, h1, h2⟩
  all_goals
    have HE := Lib.hid h
    clear h
    have Rp0 := Lib.hid (fr_rows1 w (.cells #[.int .i64 s, .int .u64 b] 27))
    go_enter Tryd.func7, Tryd.ntmps7
    go_wp2_with fail
    refine (walive_any _ T.alloc).mono ?_
    rintro e w1 ⟨rfl, hb1⟩
    have hB1 : Below w.heap.size w w1 := ((Below.refl _ _).alloc (by first | exact Nat.le_refl _ | (simp only [World.size_alloc]; omega)) _).trans (hb1.mono (by first | exact Nat.le_refl _ | (simp only [World.size_alloc]; omega)))
    have Rp1 := Lib.hid (row_below hb1 Rp0.out)
    clear hb1 Rp0
    have p0w1 : w1.cell? ⟨w.heap.size, 0, none⟩ = some (.int .i64 s) := (cell_of_row _ _ _ _ _ _ Rp1.out).trans rfl
    have p1w1 : w1.cell? ⟨w.heap.size, 1, none⟩ = some (.int .u64 b) := (cell_of_row _ _ _ _ _ _ Rp1.out).trans rfl
    have pfw1 : ∀ o, w1.frozen? ⟨w.heap.size, o, none⟩ = false := fun o => frozen_of_row _ _ _ _ _ Rp1.out
    have py1 : w.heap.size < w1.heap.size := row_lt Rp1.out
    go_wp2_with fail
    refine (first_any s n b hb _ (T.below hB1)).mono ?_
    rintro e w2 ⟨rfl, hb2⟩
    have hsz1 := hB1.size
    have hB2 : Below w.heap.size w w2 := hB1.trans (hb2.mono (by (try simp only [World.size_alloc, World.size_setCell]); omega))
    have Rp2 := Lib.hid (show w2.heap[w.heap.size]? = some (.cells #[.int .i64 s, .int .u64 b] 27) from row_below hb2 (Rp1.out))
    clear hb2 hsz1 p0w1 p1w1 pfw1 py1 Rp1
    have p0w2 : w2.cell? ⟨w.heap.size, 0, none⟩ = some (.int .i64 s) := (cell_of_row _ _ _ _ _ _ Rp2.out).trans rfl
    have p1w2 : w2.cell? ⟨w.heap.size, 1, none⟩ = some (.int .u64 b) := (cell_of_row _ _ _ _ _ _ Rp2.out).trans rfl
    have pfw2 : ∀ o, w2.frozen? ⟨w.heap.size, o, none⟩ = false := fun o => frozen_of_row _ _ _ _ _ Rp2.out
    have py2 : w.heap.size < w2.heap.size := row_lt Rp2.out
    simp only [HN.out, HB.out]
    go_wp2_with fail
    refine (wcheck_any s b _).mono ?_
    rintro e w3 ⟨rfl, hb3⟩
    have hsz2 := hB2.size
    have hB3 : Below w.heap.size w w3 := hB2.trans (hb3.mono (by (try simp only [World.size_alloc, World.size_setCell]); omega))
    have Rp3 := Lib.hid (show w3.heap[w.heap.size]? = some (.cells #[.int .i64 s, .int .u64 b] 27) from row_below hb3 (Rp2.out))
    clear hb3 hsz2 p0w2 p1w2 pfw2 py2 Rp2
    have p0w3 : w3.cell? ⟨w.heap.size, 0, none⟩ = some (.int .i64 s) := (cell_of_row _ _ _ _ _ _ Rp3.out).trans rfl
    have p1w3 : w3.cell? ⟨w.heap.size, 1, none⟩ = some (.int .u64 b) := (cell_of_row _ _ _ _ _ _ Rp3.out).trans rfl
    have pfw3 : ∀ o, w3.frozen? ⟨w.heap.size, o, none⟩ = false := fun o => frozen_of_row _ _ _ _ _ Rp3.out
    have py3 : w.heap.size < w3.heap.size := row_lt Rp3.out
    simp only [HE.out]
    go_wp2
    go_ret
    exact ⟨rfl, by go_grown⟩
set_option maxHeartbeats 8000000 in
set_option maxRecDepth 100000 in
theorem allset (s : Int) (N b : Nat) (n : Int) (hn : n = N) (hb : b < 18446744073709551616) (h : winE s = 0) (h1 : 1 ≤ N) (h2 : N ≤ 64) (hN0 : fiN s n b = 0) (hB0 : fiB s n b = false) (hbit : ∀ k : Nat, k < 64 → hasB s ((s + k) % 4096) b = b.testBit k) (hcnt : cnt b N = N) (w : World) (T : Bru w) :
    Calls Tryd.prog 7 #[.agg #[.int .i64 s, .int .u64 b], .int .i64 n] w fun e w' => e = .returned (.bool true) ∧ Below w.heap.size w w' := by
  subst hn
  have HE := Lib.hid h
  have HB := Lib.hid hB0
  have HN := Lib.hid hN0
  have HBIT := Lib.hid hbit
  have HCNT := Lib.hid (show ∀ k, cnt b (k + 1) = cnt b k + if b.testBit k then 1 else 0 from fun k => rfl)
  clear h hB0 hN0 hbit
  have Rp0 := Lib.hid (fr_rows1 w (.cells #[.int .i64 s, .int .u64 b] 27))
  go_enter Tryd.func7, Tryd.ntmps7
  go_wp2_with fail
  refine (walive_any _ T.alloc).mono ?_
  rintro e w1 ⟨rfl, hb1⟩
  have hB1 : Below w.heap.size w w1 := ((Below.refl _ _).alloc (by first | exact Nat.le_refl _ | (simp only [World.size_alloc]; omega)) _).trans (hb1.mono (by first | exact Nat.le_refl _ | (simp only [World.size_alloc]; omega)))
  have Rp1 := Lib.hid (row_below hb1 Rp0.out)
  clear hb1 Rp0
  have p0w1 : w1.cell? ⟨w.heap.size, 0, none⟩ = some (.int .i64 s) := (cell_of_row _ _ _ _ _ _ Rp1.out).trans rfl
  have p1w1 : w1.cell? ⟨w.heap.size, 1, none⟩ = some (.int .u64 b) := (cell_of_row _ _ _ _ _ _ Rp1.out).trans rfl
  have pfw1 : ∀ o, w1.frozen? ⟨w.heap.size, o, none⟩ = false := fun o => frozen_of_row _ _ _ _ _ Rp1.out
  have py1 : w.heap.size < w1.heap.size := row_lt Rp1.out
  go_wp2_with fail
  refine (first_any s (N : Int) b hb _ (T.below hB1)).mono ?_
  rintro e w2 ⟨rfl, hb2⟩
  have hsz1 := hB1.size
  have hB2 : Below w.heap.size w w2 := hB1.trans (hb2.mono (by (try simp only [World.size_alloc, World.size_setCell]); omega))
  have Rp2 := Lib.hid (show w2.heap[w.heap.size]? = some (.cells #[.int .i64 s, .int .u64 b] 27) from row_below hb2 (Rp1.out))
  clear hb2 hsz1 p0w1 p1w1 pfw1 py1 Rp1
  have p0w2 : w2.cell? ⟨w.heap.size, 0, none⟩ = some (.int .i64 s) := (cell_of_row _ _ _ _ _ _ Rp2.out).trans rfl
  have p1w2 : w2.cell? ⟨w.heap.size, 1, none⟩ = some (.int .u64 b) := (cell_of_row _ _ _ _ _ _ Rp2.out).trans rfl
  have pfw2 : ∀ o, w2.frozen? ⟨w.heap.size, o, none⟩ = false := fun o => frozen_of_row _ _ _ _ _ Rp2.out
  have py2 : w.heap.size < w2.heap.size := row_lt Rp2.out
  simp only [HN.out, HB.out]
  go_wp2_with fail
  refine (wcheck_any s b _).mono ?_
  rintro e w3 ⟨rfl, hb3⟩
  have hsz2 := hB2.size
  have hB3 : Below w.heap.size w w3 := hB2.trans (hb3.mono (by (try simp only [World.size_alloc, World.size_setCell]); omega))
  have Rp3 := Lib.hid (show w3.heap[w.heap.size]? = some (.cells #[.int .i64 s, .int .u64 b] 27) from row_below hb3 (Rp2.out))
  clear hb3 hsz2 p0w2 p1w2 pfw2 py2 Rp2
  have p0w3 : w3.cell? ⟨w.heap.size, 0, none⟩ = some (.int .i64 s) := (cell_of_row _ _ _ _ _ _ Rp3.out).trans rfl
  have p1w3 : w3.cell? ⟨w.heap.size, 1, none⟩ = some (.int .u64 b) := (cell_of_row _ _ _ _ _ _ Rp3.out).trans rfl
  have pfw3 : ∀ o, w3.frozen? ⟨w.heap.size, o, none⟩ = false := fun o => frozen_of_row _ _ _ _ _ Rp3.out
  have py3 : w.heap.size < w3.heap.size := row_lt Rp3.out
  simp only [HE.out]
  go_wp2_with fail
  go_loopw [8, 9] (fun c i wr => ∃ k : Nat, k ≤ N ∧ (c = .int .i64 (cnt b k : Nat) ∧ i = .int .i64 k) ∧ Below w.heap.size w wr ∧ wr.heap[w.heap.size]? = some (.cells #[.int .i64 s, .int .u64 b] 27)) (fun _ i _ => 64 - (intOf i).toNat)
  case atStart => exact ⟨0, by omega, ⟨rfl, rfl⟩, hB3, Rp3.out⟩
  case round =>
    clear p0w3 p1w3 pfw3 py3 Rp3 hB3
    obtain ⟨k, hk, ⟨rfl, rfl⟩, hB4, rp4⟩ := hrel
    have Rp4 := Lib.hid rp4
    clear rp4
    have p0w4 : wr.cell? ⟨w.heap.size, 0, none⟩ = some (.int .i64 s) := (cell_of_row _ _ _ _ _ _ Rp4.out).trans rfl
    have p1w4 : wr.cell? ⟨w.heap.size, 1, none⟩ = some (.int .u64 b) := (cell_of_row _ _ _ _ _ _ Rp4.out).trans rfl
    have py4 : w.heap.size < wr.heap.size := row_lt Rp4.out
    obtain ⟨c, hc⟩ : ∃ c, cnt b k = c := ⟨_, rfl⟩
    have hcle : c ≤ k := hc ▸ cnt_le b k
    have HC := Lib.hid hc
    simp only [hc]
    clear hc
    by_cases hlt : k < N
    · obtain ⟨a, ha⟩ : ∃ a, (s + (k : Int)) % 4096 = a := ⟨_, rfl⟩
      have hh := HBIT.out k (by omega)
      have hs1 := HCNT.out k
      rw [HC.out] at hs1
      obtain ⟨u, hu⟩ : ∃ u, b.testBit k = u := ⟨_, rfl⟩
      rw [ha, hu] at hh
      rw [hu] at hs1
      have HA := Lib.hid ha
      have HV := Lib.hid hh
      have HS := Lib.hid hs1
      clear ha hh hs1 hu
      cases u
      all_goals
        go_wp2_with fail
        go_region_held_law (fun w' => w'.cell? ⟨w.heap.size, 0, none⟩ = some (.int .i64 s) ∧ w'.cell? ⟨w.heap.size, 1, none⟩ = some (.int .u64 b))
          (first | go_keep | exact ⟨p0w4, p1w4⟩ | exact ⟨p0w5, p1w5⟩)
          (first
            | (go_simp; go_at_call 9; (with_reducible refine (add_any s k _).mono ?_); rintro e w' ⟨rfl, rfl⟩; simp only [HA.out])
            | (go_simp; go_at_call 17; (with_reducible refine (has_any s a b hb _).mono ?_); rintro e w5 ⟨rfl, hb5⟩; have hB5 := hB4.drew.trans (hb5.mono (Nat.le_of_lt py4)); have Rp5 := Lib.hid (row_below hb5 Rp4.out); have p0w5 : w5.cell? ⟨w.heap.size, 0, none⟩ = some (.int .i64 s) := (cell_of_row _ _ _ _ _ _ Rp5.out).trans rfl; have p1w5 : w5.cell? ⟨w.heap.size, 1, none⟩ = some (.int .u64 b) := (cell_of_row _ _ _ _ _ _ Rp5.out).trans rfl; have py5 : w.heap.size < w5.heap.size := row_lt Rp5.out; simp only [HV.out]))
        go_wp2
        go_roundw
        case rel => exact ⟨k + 1, by omega, ⟨by rw [HS.out]; simp, by go_num⟩, hB5, Rp5.out⟩
        case measure => simp [intOf]; omega
    · obtain rfl : k = N := by omega
      clear HCNT
      have HC := HC.out
      subst HC
      have HD := Lib.hid hcnt
      simp only [HD.out]
      clear HD hcnt
      go_wp2
      go_ret
      exact ⟨rfl, hB4⟩

set_option maxHeartbeats 8000000 in
set_option maxRecDepth 100000 in
theorem found (s : Int) (N b : Nat) (z : Nat) (n : Int) (hn : n = N) (hb : b < 18446744073709551616) (h : winE s = 0) (h1 : 1 ≤ N) (h2 : N ≤ 64) (hN0 : fiN s n b = (s + (z : Int)) % 4096) (hB0 : fiB s n b = true) (hbit : ∀ k : Nat, k < 64 → hasB s ((s + k) % 4096) b = b.testBit k) (hz : z < N) (hcnt : cnt b N < N) (hdst : ((s + (z : Int)) % 4096 - s) % 4096 = z) (hzb : b.testBit z = false) (hall : ∀ i, i < z → b.testBit i = true) (w : World) (T : Bru w) :
    Calls Tryd.prog 7 #[.agg #[.int .i64 s, .int .u64 b], .int .i64 n] w fun e w' => e = .returned (.bool true) ∧ Below w.heap.size w w' := by
  have HDST := Lib.hid hdst
  have HZ := Lib.hid hzb
  have HALL := Lib.hid hall
  clear hdst hzb hall
  subst hn
  have HE := Lib.hid h
  have HB := Lib.hid hB0
  have HN := Lib.hid hN0
  have HBIT := Lib.hid hbit
  have HCNT := Lib.hid (show ∀ k, cnt b (k + 1) = cnt b k + if b.testBit k then 1 else 0 from fun k => rfl)
  clear h hB0 hN0 hbit
  have Rp0 := Lib.hid (fr_rows1 w (.cells #[.int .i64 s, .int .u64 b] 27))
  go_enter Tryd.func7, Tryd.ntmps7
  go_wp2_with fail
  refine (walive_any _ T.alloc).mono ?_
  rintro e w1 ⟨rfl, hb1⟩
  have hB1 : Below w.heap.size w w1 := ((Below.refl _ _).alloc (by first | exact Nat.le_refl _ | (simp only [World.size_alloc]; omega)) _).trans (hb1.mono (by first | exact Nat.le_refl _ | (simp only [World.size_alloc]; omega)))
  have Rp1 := Lib.hid (row_below hb1 Rp0.out)
  clear hb1 Rp0
  have p0w1 : w1.cell? ⟨w.heap.size, 0, none⟩ = some (.int .i64 s) := (cell_of_row _ _ _ _ _ _ Rp1.out).trans rfl
  have p1w1 : w1.cell? ⟨w.heap.size, 1, none⟩ = some (.int .u64 b) := (cell_of_row _ _ _ _ _ _ Rp1.out).trans rfl
  have pfw1 : ∀ o, w1.frozen? ⟨w.heap.size, o, none⟩ = false := fun o => frozen_of_row _ _ _ _ _ Rp1.out
  have py1 : w.heap.size < w1.heap.size := row_lt Rp1.out
  go_wp2_with fail
  refine (first_any s (N : Int) b hb _ (T.below hB1)).mono ?_
  rintro e w2 ⟨rfl, hb2⟩
  have hsz1 := hB1.size
  have hB2 : Below w.heap.size w w2 := hB1.trans (hb2.mono (by (try simp only [World.size_alloc, World.size_setCell]); omega))
  have Rp2 := Lib.hid (show w2.heap[w.heap.size]? = some (.cells #[.int .i64 s, .int .u64 b] 27) from row_below hb2 (Rp1.out))
  clear hb2 hsz1 p0w1 p1w1 pfw1 py1 Rp1
  have p0w2 : w2.cell? ⟨w.heap.size, 0, none⟩ = some (.int .i64 s) := (cell_of_row _ _ _ _ _ _ Rp2.out).trans rfl
  have p1w2 : w2.cell? ⟨w.heap.size, 1, none⟩ = some (.int .u64 b) := (cell_of_row _ _ _ _ _ _ Rp2.out).trans rfl
  have pfw2 : ∀ o, w2.frozen? ⟨w.heap.size, o, none⟩ = false := fun o => frozen_of_row _ _ _ _ _ Rp2.out
  have py2 : w.heap.size < w2.heap.size := row_lt Rp2.out
  simp only [HN.out, HB.out]
  go_wp2_with fail
  refine (wcheck_any s b _).mono ?_
  rintro e w3 ⟨rfl, hb3⟩
  have hsz2 := hB2.size
  have hB3 : Below w.heap.size w w3 := hB2.trans (hb3.mono (by (try simp only [World.size_alloc, World.size_setCell]); omega))
  have Rp3 := Lib.hid (show w3.heap[w.heap.size]? = some (.cells #[.int .i64 s, .int .u64 b] 27) from row_below hb3 (Rp2.out))
  clear hb3 hsz2 p0w2 p1w2 pfw2 py2 Rp2
  have p0w3 : w3.cell? ⟨w.heap.size, 0, none⟩ = some (.int .i64 s) := (cell_of_row _ _ _ _ _ _ Rp3.out).trans rfl
  have p1w3 : w3.cell? ⟨w.heap.size, 1, none⟩ = some (.int .u64 b) := (cell_of_row _ _ _ _ _ _ Rp3.out).trans rfl
  have pfw3 : ∀ o, w3.frozen? ⟨w.heap.size, o, none⟩ = false := fun o => frozen_of_row _ _ _ _ _ Rp3.out
  have py3 : w.heap.size < w3.heap.size := row_lt Rp3.out
  simp only [HE.out]
  go_wp2_with fail
  go_loopw [8, 9] (fun c i wr => ∃ k : Nat, k ≤ N ∧ (c = .int .i64 (cnt b k : Nat) ∧ i = .int .i64 k) ∧ Below w.heap.size w wr ∧ wr.heap[w.heap.size]? = some (.cells #[.int .i64 s, .int .u64 b] 27)) (fun _ i _ => 64 - (intOf i).toNat)
  case atStart => exact ⟨0, by omega, ⟨rfl, rfl⟩, hB3, Rp3.out⟩
  case round =>
    clear p0w3 p1w3 pfw3 py3 Rp3 hB3
    obtain ⟨k, hk, ⟨rfl, rfl⟩, hB4, rp4⟩ := hrel
    have Rp4 := Lib.hid rp4
    clear rp4
    have p0w4 : wr.cell? ⟨w.heap.size, 0, none⟩ = some (.int .i64 s) := (cell_of_row _ _ _ _ _ _ Rp4.out).trans rfl
    have p1w4 : wr.cell? ⟨w.heap.size, 1, none⟩ = some (.int .u64 b) := (cell_of_row _ _ _ _ _ _ Rp4.out).trans rfl
    have py4 : w.heap.size < wr.heap.size := row_lt Rp4.out
    obtain ⟨c, hc⟩ : ∃ c, cnt b k = c := ⟨_, rfl⟩
    have hcle : c ≤ k := hc ▸ cnt_le b k
    have HC := Lib.hid hc
    simp only [hc]
    clear hc
    by_cases hlt : k < N
    · obtain ⟨a, ha⟩ : ∃ a, (s + (k : Int)) % 4096 = a := ⟨_, rfl⟩
      have hh := HBIT.out k (by omega)
      have hs1 := HCNT.out k
      rw [HC.out] at hs1
      obtain ⟨u, hu⟩ : ∃ u, b.testBit k = u := ⟨_, rfl⟩
      rw [ha, hu] at hh
      rw [hu] at hs1
      have HA := Lib.hid ha
      have HV := Lib.hid hh
      have HS := Lib.hid hs1
      clear ha hh hs1 hu
      cases u
      all_goals
        go_wp2_with fail
        go_region_held_law (fun w' => w'.cell? ⟨w.heap.size, 0, none⟩ = some (.int .i64 s) ∧ w'.cell? ⟨w.heap.size, 1, none⟩ = some (.int .u64 b))
          (first | go_keep | exact ⟨p0w4, p1w4⟩ | exact ⟨p0w5, p1w5⟩)
          (first
            | (go_simp; go_at_call 9; (with_reducible refine (add_any s k _).mono ?_); rintro e w' ⟨rfl, rfl⟩; simp only [HA.out])
            | (go_simp; go_at_call 17; (with_reducible refine (has_any s a b hb _).mono ?_); rintro e w5 ⟨rfl, hb5⟩; have hB5 := hB4.drew.trans (hb5.mono (Nat.le_of_lt py4)); have Rp5 := Lib.hid (row_below hb5 Rp4.out); have p0w5 : w5.cell? ⟨w.heap.size, 0, none⟩ = some (.int .i64 s) := (cell_of_row _ _ _ _ _ _ Rp5.out).trans rfl; have p1w5 : w5.cell? ⟨w.heap.size, 1, none⟩ = some (.int .u64 b) := (cell_of_row _ _ _ _ _ _ Rp5.out).trans rfl; have py5 : w.heap.size < w5.heap.size := row_lt Rp5.out; simp only [HV.out]))
        go_wp2
        go_roundw
        case rel => exact ⟨k + 1, by omega, ⟨by rw [HS.out]; simp, by go_num⟩, hB5, Rp5.out⟩
        case measure => simp [intOf]; omega
    · obtain rfl : k = N := by omega
      clear HCNT
      have HC := HC.out
      have hclt : c < k := HC ▸ hcnt
      clear HC hcnt
      obtain ⟨a, ha⟩ : ∃ a, (s + (z : Int)) % 4096 = a := ⟨_, rfl⟩
      have hd := HDST.out
      have hh := HBIT.out z (by omega)
      rw [ha] at hd hh
      rw [HZ.out] at hh
      have HD := Lib.hid hd
      have HHZ := Lib.hid hh
      simp only [ha]
      clear ha hd hh HDST HZ
      go_wp2_with fail
      refine (dist_any s a _).mono ?_
      rintro e w' ⟨rfl, rfl⟩
      simp only [HD.out]
      have Rp6 := Rp4
      clear p0w4 p1w4 py4 Rp4
      go_wp2_with fail
      go_loopw [11] (fun i wr => ∃ j : Nat, j ≤ z ∧ i = .int .i64 j ∧ Below w.heap.size w wr ∧ wr.heap[w.heap.size]? = some (.cells #[.int .i64 s, .int .u64 b] 27)) (fun i _ => z - (intOf i).toNat)
      case atStart => exact ⟨0, by omega, rfl, hB4, Rp6.out⟩
      case round =>
        clear Rp6 hB4
        obtain ⟨j, hj, rfl, hB4, rp4⟩ := hrel
        have Rp4 := Lib.hid rp4
        clear rp4
        have p0w4 : wr.cell? ⟨w.heap.size, 0, none⟩ = some (.int .i64 s) := (cell_of_row _ _ _ _ _ _ Rp4.out).trans rfl
        have p1w4 : wr.cell? ⟨w.heap.size, 1, none⟩ = some (.int .u64 b) := (cell_of_row _ _ _ _ _ _ Rp4.out).trans rfl
        have py4 : w.heap.size < wr.heap.size := row_lt Rp4.out
        by_cases hlt : j < z
        · obtain ⟨q, hq⟩ : ∃ q, (s + (j : Int)) % 4096 = q := ⟨_, rfl⟩
          have hh := HBIT.out j (by omega)
          rw [hq, HALL.out j hlt] at hh
          have HA := Lib.hid hq
          have HV := Lib.hid hh
          clear hq hh
          go_wp2_with fail
          go_region_held_law (fun w' => w'.cell? ⟨w.heap.size, 0, none⟩ = some (.int .i64 s) ∧ w'.cell? ⟨w.heap.size, 1, none⟩ = some (.int .u64 b))
            (first | go_keep | exact ⟨p0w4, p1w4⟩ | exact ⟨p0w5, p1w5⟩)
            (first
              | (go_simp; go_at_call 9; (with_reducible refine (add_any s j _).mono ?_); rintro e w' ⟨rfl, rfl⟩; simp only [HA.out])
              | (go_simp; go_at_call 17; (with_reducible refine (has_any s q b hb _).mono ?_); rintro e w5 ⟨rfl, hb5⟩; have hB5 := hB4.drew.trans (hb5.mono (Nat.le_of_lt py4)); have Rp5 := Lib.hid (row_below hb5 Rp4.out); have p0w5 : w5.cell? ⟨w.heap.size, 0, none⟩ = some (.int .i64 s) := (cell_of_row _ _ _ _ _ _ Rp5.out).trans rfl; have p1w5 : w5.cell? ⟨w.heap.size, 1, none⟩ = some (.int .u64 b) := (cell_of_row _ _ _ _ _ _ Rp5.out).trans rfl; have py5 : w.heap.size < w5.heap.size := row_lt Rp5.out; simp only [HV.out]))
          go_wp2
          go_roundw
          case rel => exact ⟨j + 1, by omega, by go_num, hB5, Rp5.out⟩
          case measure => simp [intOf]; omega
        · obtain rfl : j = z := by omega
          have hbz := hB4.size
          go_wp2_with fail
          refine (has_any s a b hb _).mono ?_
          rintro e w5 ⟨rfl, hb5⟩
          have hB5 := hB4.trans (hb5.mono (by omega))
          simp only [HHZ.out]
          clear hb5
          go_wp2
          go_ret
          exact ⟨rfl, hB5⟩

theorem walk (s : Int) (b : Nat) (n : Int) (hb : b < 18446744073709551616) (w : World) (T : Bru w) :
    Calls Tryd.prog 7 #[.agg #[.int .i64 s, .int .u64 b], .int .i64 n] w fun e w' => e = .returned (.bool true) ∧ Below w.heap.size w w' := by
  rcases winE_two s with h | h
  · by_cases h1 : 1 ≤ n
    · by_cases h2 : n ≤ 64
      · obtain ⟨N, rfl⟩ := Int.eq_ofNat_of_zero_le (show 0 ≤ n by omega)
        have hbit := fun (k : Nat) (hk : k < 64) => has_bit s b k h hk
        by_cases h3 : fz b < N
        · have hf : fiB s N b = true := by simp only [fiB, decide_eq_true_eq]; omega
          have hdst : ((s + (fz b : Int)) % 4096 - s) % 4096 = fz b := by
            rw [Int.emod_sub_emod, show s + (fz b : Int) - s = fz b by omega]; omega
          exact found s N b (fz b) N rfl hb h (by omega) (by omega) (by simp only [fiN, hf, if_true]) hf hbit h3 (cnt_lt b N _ h3 (fz_at b hb (by omega))) hdst (fz_at b hb (by omega)) (fun i hi => fz_below b i hb (by omega) hi) w T
        · have hf : fiB s N b = false := by simp only [fiB, decide_eq_false_iff_not]; omega
          exact allset s N b N rfl hb h (by omega) (by omega) (by simp [fiN, hf]) hf hbit (cnt_all b N (fun i hi => fz_below b i hb (by omega) (by omega))) w T
      · exact bad s n b hb (.inr (.inr ⟨h, h1, by omega⟩)) w T
    · exact bad s n b hb (.inr (.inl ⟨h, by omega⟩)) w T
  · exact bad s n b hb (.inl h) w T
end Go.Proofs.YtclahaafpiekeaaDoor.windowFirst
