/-
  Contracts of package rate's functions, more: Response, reply, answer, AckAir, RtsAir, BackAir, Best. Nothing that lay in memory is changed.
-/
import Derived.Test.YtpcndmpdiaceeaaRate
namespace Go.Proofs.Ytpcndmpdiaceeaa
open Go.ChangeShapes Go.WideShapes Go.ChangeAt Go.RowKit Go.Great

/-- The response rate. -/
def rResp (i : Int) : Int := [0, 0, 2, 2, 4, 4, 4, 4, 4, 4, 4, 4].getD i.toNat 0
theorem rResp_le (i : Int) (h0 : 0 ≤ i) (h1 : i < 12) : 0 ≤ rResp i ∧ rResp i ≤ i ∧ rBasic (rResp i) = true :=
  cases12 (P := fun i => 0 ≤ rResp i ∧ rResp i ≤ i ∧ rBasic (rResp i) = true) ⟨by decide, by decide, by decide, by decide, by decide, by decide, by decide, by decide, by decide, by decide, by decide, by decide⟩ i h0 h1
theorem rResp_max (i j : Int) (h0 : 0 ≤ i) (h1 : i < 12) (h2 : rResp i ≤ j) (h3 : j ≤ i) (hb : rBasic j = true) : j = rResp i := by
  have h4 := rResp_le i h0 h1
  have : ∀ i : Fin 12, ∀ j : Fin 12, rResp i ≤ j → (j : Int) ≤ i → rBasic j = true → (j : Int) = rResp i := by decide
  have h := this ⟨i.toNat, by omega⟩ ⟨j.toNat, by omega⟩
  simp only [Int.toNat_of_nonneg h0, Int.toNat_of_nonneg (show 0 ≤ j by omega)] at h
  exact h h2 h3 hb
theorem tab_basic (j : Int) (h0 : 0 ≤ j) (h1 : j < 12) : tabCells[j.toNat * 3 + 2]? = some (.bool (rBasic j)) :=
  cases12 (P := fun j => tabCells[j.toNat * 3 + 2]? = some (.bool (rBasic j))) ⟨rfl, rfl, rfl, rfl, rfl, rfl, rfl, rfl, rfl, rfl, rfl, rfl⟩ j h0 h1

theorem response_yes (i : Int) (h0 : 0 ≤ i) (h1 : i < 12) (w : World) : Calls Try.prog 14 #[.int .i64 i] w fun e w' => e = .returned (.tuple #[.int .i64 (rResp i), .int .i64 0]) ∧ Below w.heap.size w w' := by
  have hr := rResp_le i h0 h1
  go_enter Try.func14, Try.ntmps14
  go_wp2_with (go_at_call 10; refine (get_yes i h0 h1 _).mono ?_; rintro e w1 ⟨rfl, hb1⟩; obtain ⟨hc1, hf1⟩ := bcell hb1; have hz1 := hb1.size)
  refine (table_any _).mono ?_
  rintro e w2 ⟨rfl, hb2⟩
  have hz2 := hb2.size
  go_wp2_with (first | (with_reducible refine wpList_runTo rfl (some 6) rfl (.pointer (some ⟨w2.heap.size, 0, none⟩)) (w2.alloc (.cells tabZero 45)) (by as_aux_lemma => kernel_rfl) ?_; simp only [Act.put, List.setIfInBounds_toArray, List.set_cons_succ, List.set_cons_zero]) | ((with_reducible refine wpList_store_rowTo rfl 45 (.tmp 6) (.tmp 15) rfl rfl w2.heap.size tabCells ?_ ?_ 45 tabZero (heap_alloc_new _ _) tab_info tab_size tab_one ?_; (as_aux_lemma => kernel_rfl); (as_aux_lemma => kernel_rfl); rw [setRow_alloc])))
  go_loop [0] (fun x => ∃ j : Int, rResp i ≤ j ∧ j ≤ i ∧ x = .int .i64 j) (fun x => (intOf x).toNat)
  case atStart => exact ⟨i, hr.2.1, by omega, rfl⟩
  case round =>
    obtain ⟨j, hj0, hj1, rfl⟩ := hrel
    have htb := tab_basic j (by omega) (by omega)
    by_cases hb : rBasic j = true
    · have he := Lib.hid (rResp_max i j h0 h1 hj0 hj1 hb)
      go_wp2
      go_ret2
      refine ⟨fr_ret2 he.out, ?_⟩
      have hB2 : Below w.heap.size w w2 := (hb1.alloc hz1 _).trans (hb2.mono (by simp; omega))
      exact hB2.alloc hB2.size _
    · have hne : rResp i ≠ j := fun e => hb (by rw [← e]; exact hr.2.2)
      have hb' : rBasic j = false := by simpa using hb
      clear hb
      go_wp2
      go_round
      case rel => exact ⟨j - 1, by omega, by omega, rfl⟩
      case measure => simp [intOf]; omega
theorem response_no (i : Int) (h : i < 0 ∨ 12 ≤ i) (w : World) : Calls Try.prog 14 #[.int .i64 i] w fun e w' => e = .returned (.tuple #[.int .i64 0, .int .i64 2]) ∧ Below w.heap.size w w' := by
  have H := Lib.hid h
  clear h
  go_enter Try.func14, Try.ntmps14
  go_wp2_with (go_at_call 10; refine (get_no i H.out _).mono ?_; rintro e w1 ⟨rfl, hb1⟩; obtain ⟨hc1, hf1⟩ := bcell hb1; have hz1 := hb1.size)
  go_ret2
  exact ⟨rfl, by go_grown⟩

theorem reply_yes (i n : Int) (h0 : 0 ≤ i) (h1 : i < 12) (h2 : 0 ≤ n) (h3 : n ≤ 65535) (w : World) : Calls Try.prog 32 #[.int .i64 i, .int .i64 n] w fun e w' => e = .returned (.tuple #[.int .i64 (rAir (rResp i) n), .int .i64 0]) ∧ Below w.heap.size w w' := by
  have hr := rResp_le i h0 h1
  go_enter Try.func32, Try.ntmps32
  go_wp2_with (first | (go_at_call 14; refine (response_yes i h0 h1 _).mono ?_; rintro e w1 ⟨rfl, hb1⟩; have hz1 := hb1.size) | (go_at_call 30; refine (air_yes (rResp i) n hr.1 (by omega) h2 h3 _).mono ?_; rintro e w2 ⟨rfl, hb2⟩; have hB2 := hb1.trans (hb2.mono hz1)))
  go_ret2
  exact ⟨rfl, hB2⟩
theorem reply_no (i n : Int) (h : i < 0 ∨ 12 ≤ i) (w : World) : Calls Try.prog 32 #[.int .i64 i, .int .i64 n] w fun e w' => e = .returned (.tuple #[.int .i64 0, .int .i64 2]) ∧ Below w.heap.size w w' := by
  have H := Lib.hid h
  clear h
  go_enter Try.func32, Try.ntmps32
  go_wp2_with (go_at_call 14; refine (response_no i H.out _).mono ?_; rintro e w1 ⟨rfl, hb1⟩; have hz1 := hb1.size)
  go_ret2
  exact ⟨rfl, by go_grown⟩
theorem answer_yes (i n : Int) (h0 : 0 ≤ i) (h1 : i < 12) (h2 : 0 ≤ n) (h3 : n ≤ 65535) (w : World) : Calls Try.prog 31 #[.int .i64 i, .int .i64 n] w fun e w' => e = .returned (.tuple #[.int .i64 (rAir (rResp i) n), .int .i64 0]) ∧ Below w.heap.size w w' := by
  go_enter Try.func31, Try.ntmps31
  go_wp2_with (go_at_call 32; refine (reply_yes i n h0 h1 h2 h3 _).mono ?_; rintro e w1 ⟨rfl, hb1⟩)
  go_ret2
  exact ⟨rfl, by go_grown⟩
theorem answer_no (i n : Int) (h : i < 0 ∨ 12 ≤ i) (w : World) : Calls Try.prog 31 #[.int .i64 i, .int .i64 n] w fun e w' => e = .returned (.tuple #[.int .i64 0, .int .i64 2]) ∧ Below w.heap.size w w' := by
  have H := Lib.hid h
  clear h
  go_enter Try.func31, Try.ntmps31
  go_wp2_with (go_at_call 32; refine (reply_no i n H.out _).mono ?_; rintro e w1 ⟨rfl, hb1⟩)
  go_ret2
  exact ⟨rfl, by go_grown⟩
theorem ack_yes (i : Int) (h0 : 0 ≤ i) (h1 : i < 12) (w : World) : Calls Try.prog 20 #[.int .i64 i] w fun e w' => e = .returned (.tuple #[.int .i64 (rAir (rResp i) 14), .int .i64 0]) ∧ Below w.heap.size w w' := by
  go_enter Try.func20, Try.ntmps20
  go_wp2_with (go_at_call 31; refine (answer_yes i 14 h0 h1 (by omega) (by omega) _).mono ?_; rintro e w1 ⟨rfl, hb1⟩)
  go_ret2
  exact ⟨rfl, by go_grown⟩
theorem ack_no (i : Int) (h : i < 0 ∨ 12 ≤ i) (w : World) : Calls Try.prog 20 #[.int .i64 i] w fun e w' => e = .returned (.tuple #[.int .i64 0, .int .i64 2]) ∧ Below w.heap.size w w' := by
  have H := Lib.hid h
  clear h
  go_enter Try.func20, Try.ntmps20
  go_wp2_with (go_at_call 31; refine (answer_no i 14 H.out _).mono ?_; rintro e w1 ⟨rfl, hb1⟩)
  go_ret2
  exact ⟨rfl, by go_grown⟩
theorem rts_yes (i : Int) (h0 : 0 ≤ i) (h1 : i < 12) (w : World) : Calls Try.prog 21 #[.int .i64 i] w fun e w' => e = .returned (.tuple #[.int .i64 (rAir (rResp i) 20), .int .i64 0]) ∧ Below w.heap.size w w' := by
  go_enter Try.func21, Try.ntmps21
  go_wp2_with (go_at_call 31; refine (answer_yes i 20 h0 h1 (by omega) (by omega) _).mono ?_; rintro e w1 ⟨rfl, hb1⟩)
  go_ret2
  exact ⟨rfl, by go_grown⟩
theorem rts_no (i : Int) (h : i < 0 ∨ 12 ≤ i) (w : World) : Calls Try.prog 21 #[.int .i64 i] w fun e w' => e = .returned (.tuple #[.int .i64 0, .int .i64 2]) ∧ Below w.heap.size w w' := by
  have H := Lib.hid h
  clear h
  go_enter Try.func21, Try.ntmps21
  go_wp2_with (go_at_call 31; refine (answer_no i 20 H.out _).mono ?_; rintro e w1 ⟨rfl, hb1⟩)
  go_ret2
  exact ⟨rfl, by go_grown⟩
theorem back_yes (i : Int) (h0 : 0 ≤ i) (h1 : i < 12) (w : World) : Calls Try.prog 22 #[.int .i64 i] w fun e w' => e = .returned (.tuple #[.int .i64 (rAir (rResp i) 30), .int .i64 0]) ∧ Below w.heap.size w w' := by
  go_enter Try.func22, Try.ntmps22
  go_wp2_with (go_at_call 31; refine (answer_yes i 30 h0 h1 (by omega) (by omega) _).mono ?_; rintro e w1 ⟨rfl, hb1⟩)
  go_ret2
  exact ⟨rfl, by go_grown⟩
theorem back_no (i : Int) (h : i < 0 ∨ 12 ≤ i) (w : World) : Calls Try.prog 22 #[.int .i64 i] w fun e w' => e = .returned (.tuple #[.int .i64 0, .int .i64 2]) ∧ Below w.heap.size w w' := by
  have H := Lib.hid h
  clear h
  go_enter Try.func22, Try.ntmps22
  go_wp2_with (go_at_call 31; refine (answer_no i 30 H.out _).mono ?_; rintro e w1 ⟨rfl, hb1⟩)
  go_ret2
  exact ⟨rfl, by go_grown⟩
end Go.Proofs.Ytpcndmpdiaceeaa
