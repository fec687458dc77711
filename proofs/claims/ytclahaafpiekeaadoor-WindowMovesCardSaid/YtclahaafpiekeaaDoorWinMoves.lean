/-
  The walk of WindowMoves: moving keeps exactly the marks of the numbers of both windows.
-/
import Derived.Test.YtclahaafpiekeaaDoorWinAlive
import Derived.Deep.RegionHeldLaw
namespace Go.Proofs.YtclahaafpiekeaaDoor.windowMoves
open Go.ChangeShapes Go.WideShapes Go.ChangeAt Go.RowKit

theorem chk_ok {s t : Int} (h : chkE s t = 0) : (0 ≤ s ∧ s < 4096) ∧ (0 ≤ t ∧ t < 4096) := by
  by_cases hs : 0 ≤ s ∧ s < 4096
  · by_cases ht : 0 ≤ t ∧ t < 4096
    · exact ⟨hs, ht⟩
    · rw [chkE, numB_yes hs, numB_no ht] at h
      exact absurd h (by decide)
  · rw [chkE, numB_no hs] at h
    exact absurd h (by simp)
theorem chk_mk {s t : Int} (hs : 0 ≤ s ∧ s < 4096) (ht : 0 ≤ t ∧ t < 4096) : chkE s t = 0 := by
  simp [chkE, numB, hs, ht]
theorem mvB_lt (s t : Int) (b : Nat) (hb : b < 18446744073709551616) : mvB s t b < 18446744073709551616 := by
  simp only [mvB]
  split
  · split
    · exact Nat.lt_of_le_of_lt (by rw [Nat.shiftRight_eq_div_pow]; exact Nat.div_le_self _ _) hb
    · exact Nat.mod_lt _ (by omega)
  · omega
theorem bit_out (b k : Nat) (hb : b < 18446744073709551616) (h : 64 ≤ k) : b.testBit k = false :=
  Nat.testBit_lt_two_pow (Nat.lt_of_lt_of_le hb (Nat.le_trans (show 18446744073709551616 ≤ 2 ^ 64 by decide) (Nat.pow_le_pow_right (by omega) h)))
theorem at_mod (s t i : Int) : ((t + i) % 4096 - s) % 4096 = ((t - s) % 4096 + i) % 4096 := by
  rw [Int.emod_sub_emod, Int.emod_add_emod, show t + i - s = t - s + i by omega]
theorem at_start (t i : Int) (hi : 0 ≤ i ∧ i < 64) : ((t + i) % 4096 - t) % 4096 = i := by
  rw [Int.emod_sub_emod, show t + i - t = i by omega]; omega
theorem has_move (s t i : Int) (b : Nat) (hb : b < 18446744073709551616) (h : chkE s t = 0) (hi : 0 ≤ i ∧ i < 64) : hasB t ((t + i) % 4096) (mvB s t b) = hasB s ((t + i) % 4096) b := by
  obtain ⟨hs, ht⟩ := chk_ok h
  have ha : 0 ≤ (t + i) % 4096 ∧ (t + i) % 4096 < 4096 := ⟨Int.emod_nonneg _ (by omega), Int.emod_lt_of_pos _ (by omega)⟩
  have hd : 0 ≤ (t - s) % 4096 ∧ (t - s) % 4096 < 4096 := ⟨Int.emod_nonneg _ (by omega), Int.emod_lt_of_pos _ (by omega)⟩
  simp only [hasB, chk_mk ht ha, chk_mk hs ha, at_start t i hi, at_mod s t i, decide_true, Bool.true_and, mvB, h, if_true]
  generalize (t - s) % 4096 = d at hd ⊢
  have h1 : decide (i < 64) = true := by simp; omega
  rw [h1, Bool.true_and]
  by_cases q : d < 2048
  · simp only [q, if_true]
    have e : (d + i) % 4096 = d + i := by omega
    rw [e, Nat.testBit_shiftRight]
    have e2 : (d + i).toNat = d.toNat + i.toNat := by omega
    rw [e2]
    by_cases q2 : d + i < 64
    · simp [q2]
    · have : b.testBit (d.toNat + i.toNat) = false := bit_out b _ hb (by omega)
      simp [q2, this]
  · simp only [q, if_false]
    have e64 : b * 2 ^ (4096 - d).toNat % 18446744073709551616 = b * 2 ^ (4096 - d).toNat % 2 ^ 64 := rfl
    rw [e64, Nat.testBit_mod_two_pow, Nat.mul_comm, Nat.testBit_two_pow_mul]
    have h2 : decide (i.toNat < 64) = true := by simp; omega
    rw [h2, Bool.true_and]
    by_cases q2 : 4096 ≤ d + i
    · have e : (d + i) % 4096 = d + i - 4096 := by omega
      have e2 : (d + i - 4096).toNat = i.toNat - (4096 - d).toNat := by omega
      have h3 : decide (i.toNat ≥ (4096 - d).toNat) = true := by simp; omega
      have h4 : decide (d + i - 4096 < 64) = true := by simp; omega
      rw [e, e2, h3, h4]
    · have e : (d + i) % 4096 = d + i := by omega
      have h3 : decide (i.toNat ≥ (4096 - d).toNat) = false := by simp; omega
      have h4 : decide (d + i < 64) = false := by simp; omega
      rw [e, h3, h4, Bool.false_and, Bool.false_and]
theorem move_two (s t n : Int) (b : Nat) (h : chkE s t = 0) (h2 : chkE t n = 0) (hd : (t - s) % 4096 + (n - t) % 4096 < 2048) : mvB t n (mvB s t b) = mvB s n b := by
  obtain ⟨hs, ht⟩ := chk_ok h
  obtain ⟨_, hn⟩ := chk_ok h2
  have h3 : chkE s n = 0 := chk_mk hs hn
  have e0 : 0 ≤ (t - s) % 4096 := Int.emod_nonneg _ (by omega)
  have e1 : 0 ≤ (n - t) % 4096 := Int.emod_nonneg _ (by omega)
  have e : (n - s) % 4096 = (t - s) % 4096 + (n - t) % 4096 := by
    rw [show n - s = (t - s) + (n - t) by omega, Int.add_emod]
    generalize (t - s) % 4096 = x at *
    generalize (n - t) % 4096 = y at *
    omega
  simp only [mvB, h, h2, h3, if_true, e, if_pos hd, if_pos (show (t - s) % 4096 < 2048 by omega), if_pos (show (n - t) % 4096 < 2048 by omega)]
  rw [← Nat.shiftRight_add]
  congr 1
  omega
theorem chk_same (s t n : Int) (h : chkE s t = 0) : chkE t n = chkE s n := by
  obtain ⟨hs, ht⟩ := chk_ok h
  simp [chkE, numB, hs, ht]

set_option maxHeartbeats 8000000 in
set_option maxRecDepth 100000 in
theorem bad2 (s t n : Int) (b : Nat) (hb : b < 18446744073709551616) (h : chkE s t = 2) (w : World) (T : Bru w) :
    Calls Tryd.prog 6 #[.agg #[.int .i64 s, .int .u64 b], .int .i64 t, .int .i64 n] w fun e w' => e = .returned (.bool true) ∧ Below w.heap.size w w' := by
  have hs : mvS s t = 0 := by simp [mvS, h]
  have hB : ((mvB s t b : Nat) : Int) = 0 := by simp [mvB, h]
  have HE := Lib.hid h
  have HS := Lib.hid hs
  have HB := Lib.hid hB
  clear h hs hB
  have Rp0 := Lib.hid (fr_rows1 w (.cells #[.int .i64 s, .int .u64 b] 27))
  go_enter Tryd.func6, Tryd.ntmps6
  go_wp2_with fail
  refine (walive_any _ T.alloc).mono ?_
  rintro e w1 ⟨rfl, hb1⟩
  have hB1 : Below w.heap.size w w1 := ((Below.refl _ _).alloc (by first | exact Nat.le_refl _ | (simp only [World.size_alloc]; omega)) _).trans (hb1.mono (by first | exact Nat.le_refl _ | (simp only [World.size_alloc]; omega)))
  have Rp1 := Lib.hid (row_below hb1 Rp0.out)
  clear hb1 Rp0
  have p0w1 : w1.cell? ⟨w.heap.size, 0, none⟩ = some (.int .i64 s) := (cell_of_row _ _ _ _ _ _ Rp1.out).trans rfl
  have p1w1 : w1.cell? ⟨w.heap.size, 1, none⟩ = some (.int .u64 b) := (cell_of_row _ _ _ _ _ _ Rp1.out).trans rfl
  have pfw1 : ∀ o, w1.frozen? ⟨w.heap.size, o, none⟩ = false := fun o => frozen_of_row _ _ _ _ _ Rp1.out
  have py1 : w.heap.size < w1.heap.size := row_lt Rp1.out
  go_wp2_with fail
  refine (move_any s t b hb _).mono ?_
  rintro e w2 ⟨rfl, hb2⟩
  have hsz1 := hB1.size
  have hB2 : Below w.heap.size w w2 := hB1.trans (hb2.mono (by (try simp only [World.size_alloc, World.size_setCell]); omega))
  have Rp2 := Lib.hid (show w2.heap[w.heap.size]? = some (.cells #[.int .i64 s, .int .u64 b] 27) from row_below hb2 (Rp1.out))
  clear hb2 hsz1 p0w1 p1w1 pfw1 py1 Rp1
  have p0w2 : w2.cell? ⟨w.heap.size, 0, none⟩ = some (.int .i64 s) := (cell_of_row _ _ _ _ _ _ Rp2.out).trans rfl
  have p1w2 : w2.cell? ⟨w.heap.size, 1, none⟩ = some (.int .u64 b) := (cell_of_row _ _ _ _ _ _ Rp2.out).trans rfl
  have pfw2 : ∀ o, w2.frozen? ⟨w.heap.size, o, none⟩ = false := fun o => frozen_of_row _ _ _ _ _ Rp2.out
  have py2 : w.heap.size < w2.heap.size := row_lt Rp2.out
  simp only [HE.out, HS.out, HB.out]
  go_wp2
  go_ret
  exact ⟨rfl, by go_grown⟩
set_option maxHeartbeats 8000000 in
set_option maxRecDepth 100000 in
theorem bad8 (s t n : Int) (b : Nat) (hb : b < 18446744073709551616) (h : chkE s t = 8) (w : World) (T : Bru w) :
    Calls Tryd.prog 6 #[.agg #[.int .i64 s, .int .u64 b], .int .i64 t, .int .i64 n] w fun e w' => e = .returned (.bool true) ∧ Below w.heap.size w w' := by
  have hs : mvS s t = 0 := by simp [mvS, h]
  have hB : ((mvB s t b : Nat) : Int) = 0 := by simp [mvB, h]
  have HE := Lib.hid h
  have HS := Lib.hid hs
  have HB := Lib.hid hB
  clear h hs hB
  have Rp0 := Lib.hid (fr_rows1 w (.cells #[.int .i64 s, .int .u64 b] 27))
  go_enter Tryd.func6, Tryd.ntmps6
  go_wp2_with fail
  refine (walive_any _ T.alloc).mono ?_
  rintro e w1 ⟨rfl, hb1⟩
  have hB1 : Below w.heap.size w w1 := ((Below.refl _ _).alloc (by first | exact Nat.le_refl _ | (simp only [World.size_alloc]; omega)) _).trans (hb1.mono (by first | exact Nat.le_refl _ | (simp only [World.size_alloc]; omega)))
  have Rp1 := Lib.hid (row_below hb1 Rp0.out)
  clear hb1 Rp0
  have p0w1 : w1.cell? ⟨w.heap.size, 0, none⟩ = some (.int .i64 s) := (cell_of_row _ _ _ _ _ _ Rp1.out).trans rfl
  have p1w1 : w1.cell? ⟨w.heap.size, 1, none⟩ = some (.int .u64 b) := (cell_of_row _ _ _ _ _ _ Rp1.out).trans rfl
  have pfw1 : ∀ o, w1.frozen? ⟨w.heap.size, o, none⟩ = false := fun o => frozen_of_row _ _ _ _ _ Rp1.out
  have py1 : w.heap.size < w1.heap.size := row_lt Rp1.out
  go_wp2_with fail
  refine (move_any s t b hb _).mono ?_
  rintro e w2 ⟨rfl, hb2⟩
  have hsz1 := hB1.size
  have hB2 : Below w.heap.size w w2 := hB1.trans (hb2.mono (by (try simp only [World.size_alloc, World.size_setCell]); omega))
  have Rp2 := Lib.hid (show w2.heap[w.heap.size]? = some (.cells #[.int .i64 s, .int .u64 b] 27) from row_below hb2 (Rp1.out))
  clear hb2 hsz1 p0w1 p1w1 pfw1 py1 Rp1
  have p0w2 : w2.cell? ⟨w.heap.size, 0, none⟩ = some (.int .i64 s) := (cell_of_row _ _ _ _ _ _ Rp2.out).trans rfl
  have p1w2 : w2.cell? ⟨w.heap.size, 1, none⟩ = some (.int .u64 b) := (cell_of_row _ _ _ _ _ _ Rp2.out).trans rfl
  have pfw2 : ∀ o, w2.frozen? ⟨w.heap.size, o, none⟩ = false := fun o => frozen_of_row _ _ _ _ _ Rp2.out
  have py2 : w.heap.size < w2.heap.size := row_lt Rp2.out
  simp only [HE.out, HS.out, HB.out]
  go_wp2
  go_ret
  exact ⟨rfl, by go_grown⟩
set_option maxHeartbeats 8000000 in
set_option maxRecDepth 100000 in
theorem good (s t n : Int) (b : Nat) (B X Y : Nat) (f d e S : Int) (hb : b < 18446744073709551616) (hB : B < 18446744073709551616) (hE : chkE s t = 0) (hmS : mvS s t = t) (hmB : mvB s t b = B) (hhas : ∀ i : Int, 0 ≤ i ∧ i < 64 → hasB t ((t + i) % 4096) B = hasB s ((t + i) % 4096) b) (hf1 : chkE t n = f) (hf2 : chkE s n = f) (hS1 : mvS t n = S) (hS2 : mvS s n = S) (hX : mvB t n B = X) (hY : mvB s n b = Y) (hd : (t - s) % 4096 = d) (he : (n - t) % 4096 = e) (hd0 : 0 ≤ d ∧ d < 4096) (he0 : 0 ≤ e ∧ e < 4096) (hfc : f = 2 ∨ (f = 0 ∧ 2048 ≤ d + e) ∨ (f = 0 ∧ d + e < 2048 ∧ X = Y)) (w : World) (T : Bru w) :
    Calls Tryd.prog 6 #[.agg #[.int .i64 s, .int .u64 b], .int .i64 t, .int .i64 n] w fun e w' => e = .returned (.bool true) ∧ Below w.heap.size w w' := by
  have HE := Lib.hid hE
  have HS := Lib.hid hmS
  have HB := Lib.hid hmB
  have HHAS := Lib.hid hhas
  have F1 := Lib.hid hf1
  have F2 := Lib.hid hf2
  have S1 := Lib.hid hS1
  have S2 := Lib.hid hS2
  have HX := Lib.hid hX
  have HY := Lib.hid hY
  have HD := Lib.hid hd
  have HEE := Lib.hid he
  have HC := Lib.hid hfc
  clear hE hmS hmB hhas hf1 hf2 hS1 hS2 hX hY hd he hfc
  have Rp0 := Lib.hid (fr_rows1 w (.cells #[.int .i64 s, .int .u64 b] 27))
  go_enter Tryd.func6, Tryd.ntmps6
  go_wp2_with fail
  refine (walive_any _ T.alloc).mono ?_
  rintro e w1 ⟨rfl, hb1⟩
  have hB1 : Below w.heap.size w w1 := ((Below.refl _ _).alloc (by first | exact Nat.le_refl _ | (simp only [World.size_alloc]; omega)) _).trans (hb1.mono (by first | exact Nat.le_refl _ | (simp only [World.size_alloc]; omega)))
  have Rp1 := Lib.hid (row_below hb1 Rp0.out)
  clear hb1 Rp0
  have p0w1 : w1.cell? ⟨w.heap.size, 0, none⟩ = some (.int .i64 s) := (cell_of_row _ _ _ _ _ _ Rp1.out).trans rfl
  have p1w1 : w1.cell? ⟨w.heap.size, 1, none⟩ = some (.int .u64 b) := (cell_of_row _ _ _ _ _ _ Rp1.out).trans rfl
  have pfw1 : ∀ o, w1.frozen? ⟨w.heap.size, o, none⟩ = false := fun o => frozen_of_row _ _ _ _ _ Rp1.out
  have py1 : w.heap.size < w1.heap.size := row_lt Rp1.out
  go_wp2_with fail
  refine (move_any s t b hb _).mono ?_
  rintro e w2 ⟨rfl, hb2⟩
  have hsz1 := hB1.size
  have hB2 : Below w.heap.size w w2 := hB1.trans (hb2.mono (by (try simp only [World.size_alloc, World.size_setCell]); omega))
  have Rp2 := Lib.hid (show w2.heap[w.heap.size]? = some (.cells #[.int .i64 s, .int .u64 b] 27) from row_below hb2 (Rp1.out))
  clear hb2 hsz1 p0w1 p1w1 pfw1 py1 Rp1
  have p0w2 : w2.cell? ⟨w.heap.size, 0, none⟩ = some (.int .i64 s) := (cell_of_row _ _ _ _ _ _ Rp2.out).trans rfl
  have p1w2 : w2.cell? ⟨w.heap.size, 1, none⟩ = some (.int .u64 b) := (cell_of_row _ _ _ _ _ _ Rp2.out).trans rfl
  have pfw2 : ∀ o, w2.frozen? ⟨w.heap.size, o, none⟩ = false := fun o => frozen_of_row _ _ _ _ _ Rp2.out
  have py2 : w.heap.size < w2.heap.size := row_lt Rp2.out
  simp only [HE.out, HS.out, HB.out]
  go_wp2_with fail
  go_loopw [10] (fun i wr => ∃ k : Nat, k ≤ 64 ∧ i = .int .i64 k ∧ Below (w2.heap.size + 1) (w2.alloc (.cells #[.int .i64 t, .int .u64 B] 27)) wr) (fun i _ => 64 - (intOf i).toNat)
  case atStart => exact ⟨0, by omega, rfl, Below.refl _ _⟩
  case round =>
    obtain ⟨k, hk, rfl, hbl⟩ := hrel
    have hz2 := hB2.size
    have hB3 : Below w.heap.size w wr := (hB2.alloc (by omega) _).trans (hbl.mono (by omega))
    have hbl' : Below (w2.alloc (.cells #[.int .i64 t, .int .u64 B] 27)).heap.size (w2.alloc (.cells #[.int .i64 t, .int .u64 B] 27)) wr := by simpa using hbl
    have Rp3 := Lib.hid (show wr.heap[w.heap.size]? = some (.cells #[.int .i64 s, .int .u64 b] 27) from row_below hbl' (row_alloc Rp2.out))
    have Rm3 := Lib.hid (show wr.heap[w2.heap.size]? = some (.cells #[.int .i64 t, .int .u64 B] 27) from row_below hbl' (heap_alloc_new _ _))
    clear p0w2 p1w2 pfw2 py2 Rp2 hbl'
    have p0w3 : wr.cell? ⟨w.heap.size, 0, none⟩ = some (.int .i64 s) := (cell_of_row _ _ _ _ _ _ Rp3.out).trans rfl
    have p1w3 : wr.cell? ⟨w.heap.size, 1, none⟩ = some (.int .u64 b) := (cell_of_row _ _ _ _ _ _ Rp3.out).trans rfl
    have m0w3 : wr.cell? ⟨w2.heap.size, 0, none⟩ = some (.int .i64 t) := (cell_of_row _ _ _ _ _ _ Rm3.out).trans rfl
    have m1w3 : wr.cell? ⟨w2.heap.size, 1, none⟩ = some (.int .u64 B) := (cell_of_row _ _ _ _ _ _ Rm3.out).trans rfl
    have py3 : w.heap.size < wr.heap.size := row_lt Rp3.out
    have my3 : w2.heap.size < wr.heap.size := row_lt Rm3.out
    by_cases hlt : k < 64
    · have hh := HHAS.out k ⟨by omega, by omega⟩
      obtain ⟨a, ha⟩ : ∃ a, (t + (k : Int)) % 4096 = a := ⟨_, rfl⟩
      obtain ⟨v, hv⟩ : ∃ v, hasB s a b = v := ⟨_, rfl⟩
      rw [ha, hv] at hh
      have HA := Lib.hid ha
      have HV := Lib.hid hv
      have HH := Lib.hid hh
      clear ha hv hh
      cases v
      all_goals
        go_wp2_with fail
        refine (add_any t k _).mono ?_
        rintro e w' ⟨rfl, rfl⟩
        simp only [HA.out]
        go_wp2_with fail
        go_region_held_law (fun w' => (w'.cell? ⟨w.heap.size, 0, none⟩ = some (.int .i64 s) ∧ w'.cell? ⟨w.heap.size, 1, none⟩ = some (.int .u64 b)) ∧ w'.cell? ⟨w2.heap.size, 0, none⟩ = some (.int .i64 t) ∧ w'.cell? ⟨w2.heap.size, 1, none⟩ = some (.int .u64 B))
          (first | go_keep | exact ⟨⟨p0w3, p1w3⟩, m0w3, m1w3⟩ | exact ⟨⟨p0w4, p1w4⟩, m0w4, m1w4⟩ | exact ⟨⟨p0w5, p1w5⟩, m0w5, m1w5⟩)
          (first
            | (go_simp; go_at_call 17; (with_reducible refine (has_any t a B hB _).mono ?_); rintro e w4 ⟨rfl, hb4⟩; have hbl4 := hbl.drew.trans (hb4.mono my3); have Rp4 := Lib.hid (row_below hb4 Rp3.out); have Rm4 := Lib.hid (row_below hb4 Rm3.out); have p0w4 : w4.cell? ⟨w.heap.size, 0, none⟩ = some (.int .i64 s) := (cell_of_row _ _ _ _ _ _ Rp4.out).trans rfl; have p1w4 : w4.cell? ⟨w.heap.size, 1, none⟩ = some (.int .u64 b) := (cell_of_row _ _ _ _ _ _ Rp4.out).trans rfl; have m0w4 : w4.cell? ⟨w2.heap.size, 0, none⟩ = some (.int .i64 t) := (cell_of_row _ _ _ _ _ _ Rm4.out).trans rfl; have m1w4 : w4.cell? ⟨w2.heap.size, 1, none⟩ = some (.int .u64 B) := (cell_of_row _ _ _ _ _ _ Rm4.out).trans rfl; have py4 : w.heap.size < w4.heap.size := row_lt Rp4.out; have my4 : w2.heap.size < w4.heap.size := row_lt Rm4.out; simp only [HH.out])
            | (go_simp; go_at_call 17; (with_reducible refine (has_any s a b hb _).mono ?_); rintro e w5 ⟨rfl, hb5⟩; have hbl5 := hbl4.trans (hb5.mono my4); have Rp5 := Lib.hid (row_below hb5 Rp4.out); have Rm5 := Lib.hid (row_below hb5 Rm4.out); have p0w5 : w5.cell? ⟨w.heap.size, 0, none⟩ = some (.int .i64 s) := (cell_of_row _ _ _ _ _ _ Rp5.out).trans rfl; have p1w5 : w5.cell? ⟨w.heap.size, 1, none⟩ = some (.int .u64 b) := (cell_of_row _ _ _ _ _ _ Rp5.out).trans rfl; have m0w5 : w5.cell? ⟨w2.heap.size, 0, none⟩ = some (.int .i64 t) := (cell_of_row _ _ _ _ _ _ Rm5.out).trans rfl; have m1w5 : w5.cell? ⟨w2.heap.size, 1, none⟩ = some (.int .u64 B) := (cell_of_row _ _ _ _ _ _ Rm5.out).trans rfl; have py5 : w.heap.size < w5.heap.size := row_lt Rp5.out; have my5 : w2.heap.size < w5.heap.size := row_lt Rm5.out; simp only [HV.out]))
        go_wp2
        go_roundw
        case rel => exact ⟨k + 1, by omega, by go_num, hbl5⟩
        case measure => simp [intOf]; omega
    · obtain rfl : k = 64 := by omega
      go_wp2_with fail
      refine (move_any t n B hB _).mono ?_
      rintro e w4 ⟨rfl, hb4⟩
      simp only [F1.out, S1.out, HX.out]
      have hz3 := hB3.size
      have hB4 : Below w.heap.size w w4 := hB3.trans (hb4.mono (by omega))
      have Rp4 := Lib.hid (row_below hb4 Rp3.out)
      clear hb4 p0w3 p1w3 m0w3 m1w3 py3 my3 Rp3 Rm3 hbl
      have p0w4 : w4.cell? ⟨w.heap.size, 0, none⟩ = some (.int .i64 s) := (cell_of_row _ _ _ _ _ _ Rp4.out).trans rfl
      have p1w4 : w4.cell? ⟨w.heap.size, 1, none⟩ = some (.int .u64 b) := (cell_of_row _ _ _ _ _ _ Rp4.out).trans rfl
      have py4 : w.heap.size < w4.heap.size := row_lt Rp4.out
      go_wp2_with fail
      refine (move_any s n b hb _).mono ?_
      rintro e w5 ⟨rfl, hb5⟩
      simp only [F2.out, S2.out, HY.out]
      have hz4 := hB4.size
      have hB5 : Below w.heap.size w w5 := (hB4.alloc (by omega) _).trans (hb5.mono (by simp only [World.size_alloc]; omega))
      have Rp5 := Lib.hid (row_below hb5 (row_alloc Rp4.out))
      have Rx5 := Lib.hid (row_below hb5 (heap_alloc_new w4 (.cells #[.int .i64 S, .int .u64 X] 27)))
      clear hb5 p0w4 p1w4 py4 Rp4
      have p0w5 : w5.cell? ⟨w.heap.size, 0, none⟩ = some (.int .i64 s) := (cell_of_row _ _ _ _ _ _ Rp5.out).trans rfl
      have x0w5 : w5.cell? ⟨w4.heap.size, 0, none⟩ = some (.int .i64 S) := (cell_of_row _ _ _ _ _ _ Rx5.out).trans rfl
      have x1w5 : w5.cell? ⟨w4.heap.size, 1, none⟩ = some (.int .u64 X) := (cell_of_row _ _ _ _ _ _ Rx5.out).trans rfl
      have py5 : w.heap.size < w5.heap.size := row_lt Rp5.out
      have xy5 : w4.heap.size < w5.heap.size := row_lt Rx5.out
      have hc := HC.out
      clear HC
      rcases hc with rfl | ⟨rfl, hc⟩ | ⟨rfl, hc, rfl⟩
      all_goals
        go_wp2_with (go_at_call 10; refine (dist_any _ _ _).mono ?_; rintro e w' ⟨rfl, rfl⟩; simp only [HD.out, HEE.out])
        go_ret
        exact ⟨rfl, hB5.alloc (by have := hB5.size; omega) _⟩
theorem walk (s : Int) (b : Nat) (t n : Int) (hb : b < 18446744073709551616) (w : World) (T : Bru w) :
    Calls Tryd.prog 6 #[.agg #[.int .i64 s, .int .u64 b], .int .i64 t, .int .i64 n] w fun e w' => e = .returned (.bool true) ∧ Below w.heap.size w w' := by
  rcases chkE_cases s t with h | h | h
  · have hd0 : 0 ≤ (t - s) % 4096 ∧ (t - s) % 4096 < 4096 := ⟨Int.emod_nonneg _ (by omega), Int.emod_lt_of_pos _ (by omega)⟩
    have he0 : 0 ≤ (n - t) % 4096 ∧ (n - t) % 4096 < 4096 := ⟨Int.emod_nonneg _ (by omega), Int.emod_lt_of_pos _ (by omega)⟩
    have hf := chk_same s t n h
    refine good s t n b _ _ _ _ _ _ _ hb (mvB_lt s t b hb) h (by simp [mvS, h]) rfl (fun i hi => has_move s t i b hb h hi) rfl hf.symm rfl (by simp only [mvS, hf]) rfl rfl rfl rfl hd0 he0 ?_ w T
    have h8 : chkE t n = 0 ∨ chkE t n = 2 := by
      obtain ⟨_, ht⟩ := chk_ok h
      have : numB t = true := numB_yes ht
      simp only [chkE, this, if_true]
      split <;> simp
    rcases h8 with h8 | h8
    · by_cases q : (t - s) % 4096 + (n - t) % 4096 < 2048
      · exact .inr (.inr ⟨h8, q, move_two s t n b h h8 q⟩)
      · exact .inr (.inl ⟨h8, by omega⟩)
    · exact .inl h8
  · exact bad2 s t n b hb h w T
  · exact bad8 s t n b hb h w T
end Go.Proofs.YtclahaafpiekeaaDoor.windowMoves
