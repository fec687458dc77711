/-
  The walk of WindowOrder: Less is a strict total order inside a half circle.
-/
import Derived.Test.YtclahaafpiekeaaDoorWinAlive
namespace Go.Proofs.YtclahaafpiekeaaDoor.windowOrder
open Go.ChangeShapes Go.WideShapes Go.ChangeAt Go.RowKit

theorem less_at (s i k : Int) (hi : 0 ≤ i ∧ i < 2048) (hk : 0 ≤ k ∧ k < 2048) : lessB ((s + i) % 4096) ((s + k) % 4096) = decide (i < k) := by
  simp only [lessB]
  rw [Bool.eq_iff_iff]
  simp only [decide_eq_true_eq]
  omega
theorem in_at (s i k : Int) (hi : 0 ≤ i ∧ i < 2048) (hk : 0 ≤ k ∧ k < 2048) : inB ((s + i) % 4096) 2048 ((s + k) % 4096) = decide (i ≤ k) := by
  simp only [inB]
  rw [Bool.eq_iff_iff]
  simp only [decide_eq_true_eq]
  omega
set_option maxRecDepth 100000 in
set_option maxHeartbeats 4000000 in
theorem out (s i k m : Int) (h : ¬ ((0 ≤ i ∧ i < 2048) ∧ (0 ≤ k ∧ k < 2048) ∧ 0 ≤ m ∧ m < 2048)) (w : World) (T : Bru w) :
    Calls Tryd.prog 5 #[.int .i64 s, .int .i64 i, .int .i64 k, .int .i64 m] w fun e w' => e = .returned (.bool true) ∧ Below w.heap.size w w' := by
  have c : i < 0 ∨ (0 ≤ i ∧ 2048 ≤ i) ∨ (0 ≤ i ∧ i < 2048 ∧ k < 0) ∨ (0 ≤ i ∧ i < 2048 ∧ 0 ≤ k ∧ 2048 ≤ k) ∨ (0 ≤ i ∧ i < 2048 ∧ 0 ≤ k ∧ k < 2048 ∧ m < 0) ∨ (0 ≤ i ∧ i < 2048 ∧ 0 ≤ k ∧ k < 2048 ∧ 0 ≤ m ∧ 2048 ≤ m) := by omega
  clear h
  rcases c with c | ⟨c1, c2⟩ | ⟨c1, c2, c3⟩ | ⟨c1, c2, c3, c4⟩ | ⟨c1, c2, c3, c4, c5⟩ | ⟨c1, c2, c3, c4, c5, c6⟩
  all_goals
    go_enter Tryd.func5, Tryd.ntmps5
    go_wp2_with fail
    refine (walive_any _ T).mono ?_
    rintro e w1 ⟨rfl, hB1⟩
    go_wp2
    go_ret
    exact ⟨rfl, hB1⟩
set_option maxRecDepth 100000 in
set_option maxHeartbeats 4000000 in
theorem core (s i k m : Int) (v1 v2 v3 v4 v5 : Bool) (a b c : Int) (hi : 0 ≤ i ∧ i < 2048) (hk : 0 ≤ k ∧ k < 2048) (hm : 0 ≤ m ∧ m < 2048) (ha : (s + i) % 4096 = a) (hb : (s + k) % 4096 = b) (hc : (s + m) % 4096 = c) (l1 : lessB a b = v1) (l2 : lessB b a = v2) (l3 : lessB b c = v3) (l4 : lessB a c = v4) (l5 : inB a 2048 b = v5) (d1 : decide (i < k) = v1) (d2 : decide (k < i) = v2) (d5 : decide (i ≤ k) = v5) (e1 : (a == b) = (i == k)) (hv : v1 = true → v3 = true → v4 = true) (w : World) (T : Bru w) :
    Calls Tryd.prog 5 #[.int .i64 s, .int .i64 i, .int .i64 k, .int .i64 m] w fun e w' => e = .returned (.bool true) ∧ Below w.heap.size w w' := by
  have HA := Lib.hid (show (s + i) % 4096 = a from ha)
  have HB := Lib.hid (show (s + k) % 4096 = b from hb)
  have HC := Lib.hid (show (s + m) % 4096 = c from hc)
  have L1 := Lib.hid (show lessB a b = v1 from l1)
  have L2 := Lib.hid (show lessB b a = v2 from l2)
  have L3 := Lib.hid (show lessB b c = v3 from l3)
  have L4 := Lib.hid (show lessB a c = v4 from l4)
  have L5 := Lib.hid (show inB a 2048 b = v5 from l5)
  clear ha hb hc l1 l2 l3 l4 l5
  obtain ⟨e, he⟩ : ∃ e, (i == k) = e := ⟨_, rfl⟩
  rw [he] at e1
  cases v1 <;> cases v2 <;> cases v3 <;> cases v4 <;> cases v5 <;> first | (exact absurd (hv rfl rfl) (by decide)) | skip
  all_goals first | (exfalso; simp only [decide_eq_true_eq, decide_eq_false_iff_not] at d1 d2 d5; omega) | skip
  all_goals clear hv
  all_goals cases e
  all_goals
    go_enter Tryd.func5, Tryd.ntmps5
    go_wp2_with fail
    refine (walive_any _ T).mono ?_
    rintro e w1 ⟨rfl, hB1⟩
    go_wp2_with (first | (go_at_call 9; refine (add_any _ _ _).mono ?_; rintro e w' ⟨rfl, rfl⟩; simp only [HA.out, HB.out, HC.out, L1.out, L2.out, L3.out, L4.out, L5.out]) | (go_at_call 10; refine (dist_any _ _ _).mono ?_; rintro e w' ⟨rfl, rfl⟩; simp only [HA.out, HB.out, HC.out, L1.out, L2.out, L3.out, L4.out, L5.out]) | (go_at_call 15; refine (less_any _ _ _).mono ?_; rintro e w' ⟨rfl, rfl⟩; simp only [HA.out, HB.out, HC.out, L1.out, L2.out, L3.out, L4.out, L5.out]) | (go_at_call 16; refine (in_any _ _ _ _).mono ?_; rintro e w' ⟨rfl, rfl⟩; simp only [HA.out, HB.out, HC.out, L1.out, L2.out, L3.out, L4.out, L5.out]))
    go_ret
    exact ⟨rfl, hB1⟩
theorem walk (s i k m : Int) (_ : -9223372036854775808 ≤ s ∧ s ≤ 9223372036854775807) (_ : -9223372036854775808 ≤ i ∧ i ≤ 9223372036854775807) (_ : -9223372036854775808 ≤ k ∧ k ≤ 9223372036854775807) (_ : -9223372036854775808 ≤ m ∧ m ≤ 9223372036854775807) (w : World) (T : Bru w) :
    Calls Tryd.prog 5 #[.int .i64 s, .int .i64 i, .int .i64 k, .int .i64 m] w fun e w' => e = .returned (.bool true) ∧ Below w.heap.size w w' := by
  by_cases h : (0 ≤ i ∧ i < 2048) ∧ (0 ≤ k ∧ k < 2048) ∧ 0 ≤ m ∧ m < 2048
  · obtain ⟨hi, hk, hm⟩ := h
    refine core s i k m _ _ _ _ _ _ _ _ hi hk hm rfl rfl rfl (less_at s i k hi hk) (less_at s k i hk hi) (less_at s k m hk hm) (less_at s i m hi hm) (in_at s i k hi hk) rfl rfl rfl ?_ ?_ w T
    · rw [Bool.eq_iff_iff]; simp only [beq_iff_eq]; omega
    · simp only [decide_eq_true_eq]; omega
  · exact out s i k m h w T
end Go.Proofs.YtclahaafpiekeaaDoor.windowOrder
