/-
  Contracts of the reference of layer 9, more: Air (refused), Best, Response, Reply, Total, Length. Nothing that lay in memory is changed.
-/
import Derived.Test.YtpcndmpdiaceeaaRateRefB
namespace Go.Proofs.Ytpcndmpdiaceeaa
open Go.ChangeShapes Go.WideShapes Go.ChangeAt Go.RowKit

theorem refair_no (i n : Int) (h : ¬ ((0 ≤ i ∧ i < 12) ∧ 0 ≤ n ∧ n ≤ 65535)) (w : World) : Calls Try.prog 25 #[.int .i64 i, .int .i64 n] w fun e w' => e = .returned (.tuple #[.int .i64 0, .int .i64 2]) ∧ Below w.heap.size w w' := by
  by_cases hi : 0 ≤ i ∧ i < 12
  · by_cases hn : n < 0
    · have t0 : decide (n < 0) = true := by simp; omega
      go_enter Try.func25, Try.ntmps25
      go_wp2_with (go_at_call 11; refine (refget_yes i hi.1 hi.2 _).mono ?_; rintro e w1 ⟨rfl, hb1⟩; obtain ⟨hc1, hf1⟩ := bcell hb1; have hz1 := hb1.size)
      go_ret2
      exact ⟨rfl, by go_grown⟩
    · have t0 : decide (n < 0) = false := by simp; omega
      have t1 : decide (65535 < n) = true := by simp; omega
      go_enter Try.func25, Try.ntmps25
      go_wp2_with (go_at_call 11; refine (refget_yes i hi.1 hi.2 _).mono ?_; rintro e w1 ⟨rfl, hb1⟩; obtain ⟨hc1, hf1⟩ := bcell hb1; have hz1 := hb1.size)
      go_ret2
      exact ⟨rfl, by go_grown⟩
  · have hi' : i < 0 ∨ 12 ≤ i := by omega
    go_enter Try.func25, Try.ntmps25
    go_wp2_with (go_at_call 11; refine (refget_no i hi' _).mono ?_; rintro e w1 ⟨rfl, hb1⟩; obtain ⟨hc1, hf1⟩ := bcell hb1; have hz1 := hb1.size)
    go_ret2
    exact ⟨rfl, by go_grown⟩

theorem refbest_any (l : Int) (w : World) : Calls Try.prog 13 #[.int .i64 l] w fun e w' => e = .returned (.tuple #[.int .i64 (rBest l 12).1, .bool (rBest l 12).2]) ∧ Below w.heap.size w w' := by
  go_enter Try.func13, Try.ntmps13
  go_wp2_with fail
  refine (reftab _).mono ?_
  rintro e w1 ⟨g, cap, rfl, hg, hg2, hT, hB1⟩
  have T := Lib.hid hT
  clear hT
  go_wp2_with fail
  go_loop [5] (fun x => ∃ k : Nat, k ≤ 12 ∧ x = .int .i64 ((k : Int) - 1) ∧ Hid (rBest l k = rBest l 12)) (fun x => (intOf x + 1).toNat)
  case atStart => exact ⟨12, by omega, rfl, Lib.hid rfl⟩
  case round =>
    obtain ⟨k, hk, rfl, hR⟩ := hrel
    by_cases h0 : k = 0
    · subst h0
      have hR' : rBest l 12 = (0, false) := by rw [← hR.out]; rfl
      have H1 := Lib.hid hR'
      clear hR'
      have ez : (((0 : Nat) : Int) - 1) = -1 := rfl
      rw [ez]
      clear ez
      go_wp2
      go_ret2
      exact ⟨fr_ret2b (by rw [H1.out]) (by rw [H1.out]), hB1⟩
    · obtain ⟨j, rfl⟩ : ∃ j, k = j + 1 := ⟨k - 1, by omega⟩
      have ej : (((j + 1 : Nat) : Int) - 1) = (j : Int) := by omega
      rw [ej]
      clear ej
      obtain ⟨_, c1, _⟩ := T.out (j : Int) (by omega) (by omega)
      rw [Int.toNat_natCast] at c1
      have hj0 : (0 : Int) ≤ (j : Int) := by omega
      have hj1 : (j : Int) < 12 := by omega
      by_cases hn : rNeed (j : Int) ≤ l
      · have H1 := Lib.hid (hR.out.symm.trans ((rBest_succ l j).trans (if_pos hn)))
        go_wp2
        go_ret2
        exact ⟨fr_ret2b (by rw [H1.out]) (by rw [H1.out]), hB1⟩
      · have H1 := Lib.hid (((rBest_succ l j).trans (if_neg hn)).symm.trans hR.out)
        go_wp2
        go_round
        case rel => exact ⟨j, by omega, rfl, H1⟩
        case measure => simp [intOf]

theorem refresponse_yes (i : Int) (h0 : 0 ≤ i) (h1 : i < 12) (w : World) : Calls Try.prog 15 #[.int .i64 i] w fun e w' => e = .returned (.tuple #[.int .i64 (rResp i), .int .i64 0]) ∧ Below w.heap.size w w' := by
  have hr := rResp_le i h0 h1
  go_enter Try.func15, Try.ntmps15
  go_wp2_with (go_at_call 11; refine (refget_yes i h0 h1 _).mono ?_; rintro e w1 ⟨rfl, hb1⟩; have hz1 := hb1.size)
  go_loopw [0] (fun x wr => ∃ j : Int, rResp i ≤ j ∧ j ≤ i ∧ x = .int .i64 j ∧ Below w.heap.size w wr) (fun x _ => (intOf x).toNat)
  case atStart => exact ⟨i, hr.2.1, by omega, rfl, hb1.alloc hz1 _⟩
  case round =>
    obtain ⟨j, hj0, hj1, rfl, hB⟩ := hrel
    have hj2 : 0 ≤ j ∧ j < 12 := by omega
    go_wp2_with fail
    refine (reftab _).mono ?_
    rintro e w2 ⟨g, cap, rfl, hg, hg2, hT, hb2⟩
    have hB2 := hB.trans (hb2.mono hB.size)
    have hz2 := hB2.size
    obtain ⟨_, _, c2⟩ := hT j hj2.1 hj2.2
    clear hT
    by_cases hb : rBasic j = true
    · have he := Lib.hid (rResp_max i j h0 h1 hj0 hj1 hb)
      go_wp2
      go_ret2
      exact ⟨fr_ret2 he.out, hB2⟩
    · have hne : rResp i ≠ j := fun e => hb (by rw [← e]; exact hr.2.2)
      have hb' : rBasic j = false := by simpa using hb
      clear hb
      go_wp2
      go_roundw
      case rel => exact ⟨j - 1, by omega, by omega, rfl, hB2⟩
      case measure => simp [intOf]; omega
theorem refresponse_no (i : Int) (h : i < 0 ∨ 12 ≤ i) (w : World) : Calls Try.prog 15 #[.int .i64 i] w fun e w' => e = .returned (.tuple #[.int .i64 0, .int .i64 2]) ∧ Below w.heap.size w w' := by
  have H := Lib.hid h
  clear h
  go_enter Try.func15, Try.ntmps15
  go_wp2_with (go_at_call 11; refine (refget_no i H.out _).mono ?_; rintro e w1 ⟨rfl, hb1⟩; have hz1 := hb1.size)
  go_ret2
  exact ⟨rfl, by go_grown⟩

theorem refreply_yes (i n : Int) (h0 : 0 ≤ i) (h1 : i < 12) (h2 : 0 ≤ n) (h3 : n ≤ 65535) (w : World) : Calls Try.prog 27 #[.int .i64 i, .int .i64 n] w fun e w' => e = .returned (.tuple #[.int .i64 (rAir (rResp i) n), .int .i64 0]) ∧ Below w.heap.size w w' := by
  have hr := rResp_le i h0 h1
  go_enter Try.func27, Try.ntmps27
  go_wp2_with (first | (go_at_call 15; refine (refresponse_yes i h0 h1 _).mono ?_; rintro e w1 ⟨rfl, hb1⟩; have hz1 := hb1.size) | (go_at_call 25; refine (refair_yes (rResp i) n hr.1 (by omega) h2 h3 _).mono ?_; rintro e w2 ⟨rfl, hb2⟩; have hB2 := hb1.trans (hb2.mono hz1)))
  go_ret2
  exact ⟨rfl, hB2⟩
theorem refreply_no (i n : Int) (h : i < 0 ∨ 12 ≤ i) (w : World) : Calls Try.prog 27 #[.int .i64 i, .int .i64 n] w fun e w' => e = .returned (.tuple #[.int .i64 0, .int .i64 2]) ∧ Below w.heap.size w w' := by
  have H := Lib.hid h
  clear h
  go_enter Try.func27, Try.ntmps27
  go_wp2_with (go_at_call 15; refine (refresponse_no i H.out _).mono ?_; rintro e w1 ⟨rfl, hb1⟩; have hz1 := hb1.size)
  go_ret2
  exact ⟨rfl, by go_grown⟩

theorem reftotal_yes (i n : Int) (h0 : 0 ≤ i) (h1 : i < 12) (h2 : 0 ≤ n) (h3 : n ≤ 65535) (w : World) : Calls Try.prog 28 #[.int .i64 i, .int .i64 n] w fun e w' => e = .returned (.tuple #[.int .i64 (rAir i n + 16 + rAir (rResp i) 14), .int .i64 0]) ∧ Below w.heap.size w w' := by
  have hr := rResp_le i h0 h1
  have b1 := rAir_bounds i n h0 h1 h2 h3
  have b2 := rAir_bounds (rResp i) 14 hr.1 (by omega) (by omega) (by omega)
  go_enter Try.func28, Try.ntmps28
  go_wp2_with (first | (go_at_call 25; refine (refair_yes i n h0 h1 h2 h3 _).mono ?_; rintro e w1 ⟨rfl, hb1⟩; have hz1 := hb1.size) | (go_at_call 27; refine (refreply_yes i 14 h0 h1 (by omega) (by omega) _).mono ?_; rintro e w2 ⟨rfl, hb2⟩; have hB2 := hb1.trans (hb2.mono hz1)))
  go_ret2
  exact ⟨rfl, hB2⟩
theorem reftotal_no (i n : Int) (h : ¬ ((0 ≤ i ∧ i < 12) ∧ 0 ≤ n ∧ n ≤ 65535)) (w : World) : Calls Try.prog 28 #[.int .i64 i, .int .i64 n] w fun e w' => e = .returned (.tuple #[.int .i64 0, .int .i64 2]) ∧ Below w.heap.size w w' := by
  have H := Lib.hid h
  clear h
  go_enter Try.func28, Try.ntmps28
  go_wp2_with (go_at_call 25; refine (refair_no i n H.out _).mono ?_; rintro e w1 ⟨rfl, hb1⟩; have hz1 := hb1.size)
  go_ret2
  exact ⟨rfl, by go_grown⟩

/-! ### The reference's Length: a plain law, and the walk -/
theorem rAir_le_iff (i m t : Int) (h0 : 0 ≤ i) (h1 : i < 12) : rAir i m ≤ t ↔ 8 * m + 22 ≤ (t - 20) / 4 * rBits i := by
  have hp := rBits_pos i h0 h1
  constructor
  · intro h
    have h2 := le_symbols (rBits i) (8 * m + 22) (by omega)
    have h3 : (8 * m + 22 + rBits i - 1) / rBits i ≤ (t - 20) / 4 := by unfold rAir at h; omega
    have h4 : (8 * m + 22 + rBits i - 1) / rBits i * rBits i ≤ (t - 20) / 4 * rBits i := Int.mul_le_mul_of_nonneg_right h3 (by omega)
    omega
  · intro h
    have h2 := symbols_le (rBits i) (8 * m + 22) ((t - 20) / 4) (by omega) h
    unfold rAir
    omega
theorem reflen_fits (i t n : Int) (h0 : 0 ≤ i) (h1 : i < 12) (ht : rAir i 0 ≤ t) (hn : n = min 65535 (((t - 20) / 4 * rBits i - 22) / 8)) : Fits i t n := by
  have g0 := (rAir_le_iff i 0 t h0 h1).1 ht
  subst hn
  refine ⟨by omega, by omega, (rAir_le_iff i _ t h0 h1).2 (by omega), fun m a b => ?_⟩
  have := (rAir_le_iff i m t h0 h1).2
  by_cases g : rAir i m ≤ t
  · have := (rAir_le_iff i m t h0 h1).1 g
    omega
  · omega
theorem fits_unique {i t n m : Int} (h : Fits i t n) (g : Fits i t m) : n = m := by
  rcases Int.lt_trichotomy n m with c | c | c
  · have := h.most m c g.high
    have := g.fits
    omega
  · exact c
  · have := g.most n c h.high
    have := h.fits
    omega

theorem reflength_no (i t : Int) (h : i < 0 ∨ 12 ≤ i) (w : World) : Calls Try.prog 26 #[.int .i64 i, .int .i64 t] w fun e w' => e = .returned (.tuple #[.int .i64 0, .int .i64 2]) ∧ Below w.heap.size w w' := by
  have H := Lib.hid h
  clear h
  go_enter Try.func26, Try.ntmps26
  go_wp2_with (go_at_call 11; refine (refget_no i H.out _).mono ?_; rintro e w1 ⟨rfl, hb1⟩; have hz1 := hb1.size)
  go_ret2
  exact ⟨rfl, by go_grown⟩
theorem reflength_late (i t : Int) (h0 : 0 ≤ i) (h1 : i < 12) (ht : t < rAir i 0) (w : World) : Calls Try.prog 26 #[.int .i64 i, .int .i64 t] w fun e w' => e = .returned (.tuple #[.int .i64 0, .int .i64 40]) ∧ Below w.heap.size w w' := by
  go_enter Try.func26, Try.ntmps26
  go_wp2_with (first | (go_at_call 11; refine (refget_yes i h0 h1 _).mono ?_; rintro e w1 ⟨rfl, hb1⟩; have hz1 := hb1.size) | (go_at_call 25; refine (refair_yes i 0 h0 h1 (by omega) (by omega) _).mono ?_; rintro e w2 ⟨rfl, hb2⟩; have hB2 := (hb1.alloc hz1 _).trans (hb2.mono (by simp only [World.size_alloc]; omega))))
  go_ret2
  exact ⟨rfl, hB2⟩
set_option maxHeartbeats 800000 in
theorem reflength_yes (i t : Int) (h0 : 0 ≤ i) (h1 : i < 12) (ht : rAir i 0 ≤ t) (w : World) : Calls Try.prog 26 #[.int .i64 i, .int .i64 t] w fun e w' => LenOk i t e ∧ Below w.heap.size w w' := by
  have hp := rBits_pos i h0 h1
  have b1 := rAir_bounds i 65535 h0 h1 (by omega) (by omega)
  have b0 := rAir_bounds i 0 h0 h1 (by omega) (by omega)
  by_cases hm : rAir i 65535 ≤ t
  · have hf : Fits i t 65535 := ⟨by omega, by omega, hm, fun m a b => by omega⟩
    have HF := Lib.hid hf
    clear hf
    go_enter Try.func26, Try.ntmps26
    go_wp2_with fail
    refine (refget_yes i h0 h1 _).mono ?_
    rintro e w1 ⟨rfl, hb1⟩
    have hz1 := hb1.size
    go_wp2_with fail
    refine (refair_yes i 0 h0 h1 (by omega) (by omega) _).mono ?_
    rintro e w2 ⟨rfl, hb2⟩
    have hB2 := (hb1.alloc hz1 _).trans (hb2.mono (by simp only [World.size_alloc]; omega))
    have hz2 := hB2.size
    go_wp2_with fail
    refine (refair_yes i 65535 h0 h1 (by omega) (by omega) _).mono ?_
    rintro e w3 ⟨rfl, hb3⟩
    have hB3 := hB2.trans (hb3.mono hz2)
    go_wp2
    go_ret2
    exact ⟨⟨65535, HF.out, rfl⟩, hB3⟩
  · have HF := Lib.hid (reflen_fits i t _ h0 h1 ht rfl)
    have q0 : 0 ≤ (t - 20) / 4 * rBits i := Int.mul_nonneg (by omega) (by omega)
    have q1 : (t - 20) / 4 * rBits i ≤ 30000 * 476 := Int.mul_le_mul (by omega) (by omega) (by omega) (by omega)
    have q2 := (rAir_le_iff i 0 t h0 h1).1 ht
    go_enter Try.func26, Try.ntmps26
    go_wp2_with fail
    refine (refget_yes i h0 h1 _).mono ?_
    rintro e w1 ⟨rfl, hb1⟩
    have hz1 := hb1.size
    go_wp2_with fail
    refine (refair_yes i 0 h0 h1 (by omega) (by omega) _).mono ?_
    rintro e w2 ⟨rfl, hb2⟩
    have hB2 := (hb1.alloc hz1 _).trans (hb2.mono (by simp only [World.size_alloc]; omega))
    have hz2 := hB2.size
    simp only [World.size_alloc] at hb2
    have c0 := (hb2.cell (p := ⟨w1.heap.size, 0, none⟩) (by simp)).trans (show _ = some (Value.int .i64 (rBits i)) by simp)
    have hz4 := hb2.size
    simp only [World.size_alloc] at hz4
    go_wp2_with fail
    refine (refair_yes i 65535 h0 h1 (by omega) (by omega) _).mono ?_
    rintro e w3 ⟨rfl, hb3⟩
    have hB3 := hB2.trans (hb3.mono hz2)
    have c1 := (hb3.cell (p := ⟨w1.heap.size, 0, none⟩) (by simp; omega)).trans c0
    go_wp2
    all_goals go_ret2
    all_goals exact ⟨⟨_, HF.out, fr_ret2 (by omega)⟩, hB3⟩
end Go.Proofs.Ytpcndmpdiaceeaa
