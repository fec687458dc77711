/-
  Contracts of the reference's integer functions of layer 17 (Rest, Number, Add, Dist by counting, Less, In): what each returns, for every int; the world is left as it was.
-/
import Derived.Test.YtclahaafpiekeaaWin
import Derived.Lib.Hide
namespace Go.Proofs.Ytclahaafpiekeaa
open Go.ChangeShapes Go.WideShapes Go.ChangeAt Go.RowKit

theorem tmod4096 (a : Int) : a.tmod 4096 = a % 4096 ∨ (a.tmod 4096 = a % 4096 - 4096 ∧ a % 4096 ≠ 0) := by
  rw [Int.tmod_eq_emod]
  split
  · left; omega
  · right; rename_i h; omega
theorem rest_any (a : Int) (w : World) : Calls Try.prog 12 #[.int .i64 a] w fun e w' => e = .returned (.int .i64 (a % 4096)) ∧ w = w' := by
  have hr1 := tmod4096 a
  go_enter Try.func12, Try.ntmps12
  go_wp2
  all_goals go_ret
  · exact ⟨win_ret (by omega), rfl⟩
  · exact ⟨win_ret (by omega), rfl⟩
theorem refnum_any (a : Int) (w : World) : Calls Try.prog 14 #[.int .i64 a] w fun e w' => e = .returned (.bool (numB a)) ∧ w = w' := by
  by_cases h1 : 0 ≤ a <;> by_cases h2 : a < 4096
  all_goals
    go_enter Try.func14, Try.ntmps14
    go_wp2
    go_ret
    refine ⟨win_retb ?_, rfl⟩
    first | (rw [numB_yes ⟨by omega, by omega⟩]; done) | (rw [numB_no (by omega)]; done) | (rw [numB_yes ⟨by omega, by omega⟩]; simp; omega) | (rw [numB_no (by omega)]; simp; omega)
theorem refadd_any (a n : Int) (w : World) : Calls Try.prog 5 #[.int .i64 a, .int .i64 n] w fun e w' => e = .returned (.int .i64 ((a + n) % 4096)) ∧ w = w' := by
  have h1 : 0 ≤ a % 4096 ∧ a % 4096 < 4096 := by omega
  have h2 : 0 ≤ n % 4096 ∧ n % 4096 < 4096 := by omega
  go_enter Try.func5, Try.ntmps5
  go_wp2_with (go_at_call 12; refine (rest_any _ _).mono ?_; rintro e w' ⟨rfl, rfl⟩)
  go_ret
  exact ⟨win_ret (by omega), rfl⟩
set_option maxHeartbeats 400000 in
theorem refdist_any (a b : Int) (w : World) : Calls Try.prog 7 #[.int .i64 a, .int .i64 b] w fun e w' => e = .returned (.int .i64 ((b - a) % 4096)) ∧ w = w' := by
  have h1 : 0 ≤ a % 4096 ∧ a % 4096 < 4096 := by omega
  have h2 : 0 ≤ b % 4096 ∧ b % 4096 < 4096 := by omega
  go_enter Try.func7, Try.ntmps7
  go_wp2_with (go_at_call 12; refine (rest_any _ _).mono ?_; rintro e w' ⟨rfl, rfl⟩)
  go_loop [0, 5] (fun x d => ∃ k : Int, 0 ≤ k ∧ k ≤ (b - a) % 4096 ∧ x = .int .i64 ((a + k) % 4096) ∧ d = .int .i64 k) (fun _ d => (4096 - intOf d).toNat)
  case atStart => exact ⟨0, by omega, by omega, by simp, rfl⟩
  case round =>
    obtain ⟨k, hk0, hk1, rfl, rfl⟩ := hrel
    have h3 : 0 ≤ (a + k) % 4096 ∧ (a + k) % 4096 < 4096 := by omega
    by_cases he : k = (b - a) % 4096
    · have hz : (a + k) % 4096 = b % 4096 := by omega
      have hz1 : ((a + k) % 4096 != b % 4096) = false := by simp [hz]
      have he' := Lib.hid he
      clear hz he
      go_wp2
      go_ret
      exact ⟨win_ret he'.out, rfl⟩
    · have hz : (a + k) % 4096 ≠ b % 4096 := by omega
      have hz1 : ((a + k) % 4096 != b % 4096) = true := by simp [hz]
      go_wp2
      go_round
      case rel => exact ⟨k + 1, by omega, by omega, congrArg (Value.int .i64) (by omega), rfl⟩
      case measure => simp [intOf]; omega

theorem refless_any (a b : Int) (w : World) : Calls Try.prog 9 #[.int .i64 a, .int .i64 b] w fun e w' => e = .returned (.bool (lessB a b)) ∧ w = w' := by
  have hd0 : 0 ≤ (b - a) % 4096 := Int.emod_nonneg _ (by omega)
  have n1 : numB a = true ∨ numB a = false := by cases numB a <;> simp
  have n2 : numB b = true ∨ numB b = false := by cases numB b <;> simp
  by_cases h3 : 1 ≤ (b - a) % 4096 <;> rcases n1 with n1 | n1 <;> rcases n2 with n2 | n2
  all_goals
    go_enter Try.func9, Try.ntmps9
    go_wp2_with (first | (go_at_call 7; refine (refdist_any _ _ _).mono ?_; rintro e w' ⟨rfl, rfl⟩) | (go_at_call 14; refine (refnum_any _ _).mono ?_; rintro e w' ⟨rfl, rfl⟩))
    go_ret
    refine ⟨win_retb ?_, rfl⟩
    simp only [numB, decide_eq_true_eq, decide_eq_false_iff_not] at n1 n2
    rw [Bool.eq_iff_iff]
    simp [lessB, n1, n2] <;> omega

theorem refin_any (s n a : Int) (w : World) : Calls Try.prog 11 #[.int .i64 s, .int .i64 n, .int .i64 a] w fun e w' => e = .returned (.bool (inB s n a)) ∧ w = w' := by
  have n1 : numB s = true ∨ numB s = false := by cases numB s <;> simp
  have n2 : numB a = true ∨ numB a = false := by cases numB a <;> simp
  rcases n1 with n1 | n1 <;> rcases n2 with n2 | n2
  all_goals
    go_enter Try.func11, Try.ntmps11
    go_wp2_with (first | (go_at_call 7; refine (refdist_any _ _ _).mono ?_; rintro e w' ⟨rfl, rfl⟩) | (go_at_call 14; refine (refnum_any _ _).mono ?_; rintro e w' ⟨rfl, rfl⟩))
    go_ret
    refine ⟨win_retb ?_, rfl⟩
    simp only [numB, decide_eq_true_eq, decide_eq_false_iff_not] at n1 n2
    rw [Bool.eq_iff_iff]
    simp [inB, n1, n2] <;> omega
end Go.Proofs.Ytclahaafpiekeaa
