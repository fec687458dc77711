/-
  Contracts of the package window's integer functions (Add, Dist, Less, In, number): what each returns, for every int; the world is left as it was.
-/
import Derived.Test.YtclahaafpiekeaaDoorRows
import Derived.WalkKit
import Derived.ProofKit
import Derived.OpenShut
namespace Go.Proofs.YtclahaafpiekeaaDoor
open Go.ChangeShapes Go.WideShapes Go.ChangeAt Go.RowKit

theorem win_ret {k : IntKind} {a b : Int} (h : a = b) : Ending.returned (.int k a) = .returned (.int k b) := by rw [h]
theorem win_retb {a b : Bool} (h : a = b) : Ending.returned (.bool a) = .returned (.bool b) := by rw [h]

theorem and4095_u64 (x : Int) : bits .and .u64 (x % 18446744073709551616) 4095 = x % 4096 := by
  have h0 : 0 ≤ x % 18446744073709551616 := Int.emod_nonneg _ (by omega)
  obtain ⟨k, hk⟩ := Int.eq_ofNat_of_zero_le h0
  have hlt : k < 18446744073709551616 := by omega
  have h := bits_and_u64_nat k 4095 hlt (by omega)
  rw [nat_mask12] at h
  rw [hk]
  have h2 : bits .and .u64 (k : Int) 4095 = ((k % 4096 : Nat) : Int) := h
  rw [h2]
  omega
theorem and4095_wrap (x : Int) : wrap64 (bits .and .u64 (IntKind.u64.wrap x) 4095) = x % 4096 := by
  rw [IntKind.wrap_u64, and4095_u64]
  unfold wrap64
  omega
theorem win_add_num (a n : Int) : wrap64 (bits .and .u64 (IntKind.u64.wrap (IntKind.u64.wrap a + IntKind.u64.wrap n)) 4095) = (a + n) % 4096 := by
  rw [and4095_wrap, IntKind.wrap_u64, IntKind.wrap_u64]
  omega
theorem win_dist_num (a b : Int) : wrap64 (bits .and .u64 (IntKind.u64.wrap (IntKind.u64.wrap b - IntKind.u64.wrap a)) 4095) = (b - a) % 4096 := by
  rw [and4095_wrap, IntKind.wrap_u64, IntKind.wrap_u64]
  omega

theorem add_any (a n : Int) (w : World) : Calls Tryd.prog 9 #[.int .i64 a, .int .i64 n] w fun e w' => e = .returned (.int .i64 ((a + n) % 4096)) ∧ w = w' := by
  go_enter Tryd.func9, Tryd.ntmps9
  go_wp2
  go_ret
  exact ⟨win_ret (win_add_num a n), rfl⟩
theorem dist_any (a b : Int) (w : World) : Calls Tryd.prog 10 #[.int .i64 a, .int .i64 b] w fun e w' => e = .returned (.int .i64 ((b - a) % 4096)) ∧ w = w' := by
  go_enter Tryd.func10, Tryd.ntmps10
  go_wp2
  go_ret
  exact ⟨win_ret (win_dist_num a b), rfl⟩

/-- Is a number a sequence number? -/
def numB (a : Int) : Bool := decide (0 ≤ a ∧ a < 4096)
theorem numB_yes {a : Int} (h : 0 ≤ a ∧ a < 4096) : numB a = true := by simp [numB, h]
theorem numB_no {a : Int} (h : ¬ (0 ≤ a ∧ a < 4096)) : numB a = false := by simp only [numB, h, decide_false]
theorem number_any (a : Int) (w : World) : Calls Tryd.prog 19 #[.int .i64 a] w fun e w' => e = .returned (.bool (numB a)) ∧ w = w' := by
  by_cases h1 : 0 ≤ a <;> by_cases h2 : a < 4096
  all_goals
    go_enter Tryd.func19, Tryd.ntmps19
    go_wp2
    go_ret
    refine ⟨win_retb ?_, rfl⟩
    first | (rw [numB_yes ⟨by omega, by omega⟩]; done) | (rw [numB_no (by omega)]; done) | (rw [numB_yes ⟨by omega, by omega⟩]; simp; omega) | (rw [numB_no (by omega)]; simp; omega)

/-- 'a is before b'. -/
def lessB (a b : Int) : Bool := decide ((0 ≤ a ∧ a < 4096) ∧ (0 ≤ b ∧ b < 4096) ∧ 1 ≤ (b - a) % 4096 ∧ (b - a) % 4096 ≤ 2047)
/-- 'a is one of n numbers from s on'. -/
def inB (s n a : Int) : Bool := decide ((0 ≤ s ∧ s < 4096) ∧ (0 ≤ a ∧ a < 4096) ∧ (a - s) % 4096 < n)

theorem less_any (a b : Int) (w : World) : Calls Tryd.prog 15 #[.int .i64 a, .int .i64 b] w fun e w' => e = .returned (.bool (lessB a b)) ∧ w = w' := by
  have hd0 : 0 ≤ (b - a) % 4096 := Int.emod_nonneg _ (by omega)
  have n1 : numB a = true ∨ numB a = false := by cases numB a <;> simp
  have n2 : numB b = true ∨ numB b = false := by cases numB b <;> simp
  by_cases h3 : 0 < (b - a) % 4096 <;> rcases n1 with n1 | n1 <;> rcases n2 with n2 | n2
  all_goals
    go_enter Tryd.func15, Tryd.ntmps15
    go_wp2_with (first | (go_at_call 10; refine (dist_any _ _ _).mono ?_; rintro e w' ⟨rfl, rfl⟩) | (go_at_call 19; refine (number_any _ _).mono ?_; rintro e w' ⟨rfl, rfl⟩))
    go_ret
    refine ⟨win_retb ?_, rfl⟩
    simp only [numB, decide_eq_true_eq, decide_eq_false_iff_not] at n1 n2
    rw [Bool.eq_iff_iff]
    simp [lessB, n1, n2] <;> omega

theorem in_any (s n a : Int) (w : World) : Calls Tryd.prog 16 #[.int .i64 s, .int .i64 n, .int .i64 a] w fun e w' => e = .returned (.bool (inB s n a)) ∧ w = w' := by
  have n1 : numB s = true ∨ numB s = false := by cases numB s <;> simp
  have n2 : numB a = true ∨ numB a = false := by cases numB a <;> simp
  rcases n1 with n1 | n1 <;> rcases n2 with n2 | n2
  all_goals
    go_enter Tryd.func16, Tryd.ntmps16
    go_wp2_with (first | (go_at_call 10; refine (dist_any _ _ _).mono ?_; rintro e w' ⟨rfl, rfl⟩) | (go_at_call 19; refine (number_any _ _).mono ?_; rintro e w' ⟨rfl, rfl⟩))
    go_ret
    refine ⟨win_retb ?_, rfl⟩
    simp only [numB, decide_eq_true_eq, decide_eq_false_iff_not] at n1 n2
    rw [Bool.eq_iff_iff]
    simp [inB, n1, n2] <;> omega
end Go.Proofs.YtclahaafpiekeaaDoor
