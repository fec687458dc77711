/-
  The walk of WindowGroup: adding and distances undo each other.
-/
import Derived.Test.YtclahaafpiekeaaDoorWinAlive
namespace Go.Proofs.YtclahaafpiekeaaDoor.windowGroup
open Go.ChangeShapes Go.WideShapes Go.ChangeAt Go.RowKit

set_option maxRecDepth 100000 in
set_option maxHeartbeats 4000000 in
theorem core00 (a b n x d g p q t r : Int) (hX : (a + n) % 4096 = x) (hD : (b - a) % 4096 = d) (hG : (a - b) % 4096 = g) (hP : (b + 0) % 4096 = p) (hQ : (a + 0) % 4096 = q) (hTT : (a + b) % 4096 = t) (hR : (x + b) % 4096 = r) (hE1 : (b + g) % 4096 = q) (hE2 : (a + d) % 4096 = p) (hE3 : (t + n) % 4096 = r) (bx : 0 ≤ x ∧ x < 4096) (bd : 0 ≤ d ∧ d < 4096) (bg : 0 ≤ g ∧ g < 4096) (c1 : (d + g == 0) = true) (c2 : n < 0) (w : World) (T : Bru w) :
    Calls Tryd.prog 3 #[.int .i64 a, .int .i64 b, .int .i64 n] w fun e w' => e = .returned (.bool true) ∧ Below w.heap.size w w' := by
  have X := Lib.hid hX
  have D := Lib.hid hD
  have G := Lib.hid hG
  have P := Lib.hid hP
  have Q := Lib.hid hQ
  have TT := Lib.hid hTT
  have R := Lib.hid hR
  have E1 := Lib.hid hE1
  have E2 := Lib.hid hE2
  have E3 := Lib.hid hE3
  clear hX hD hG hP hQ hTT hR hE1 hE2 hE3
  go_enter Tryd.func3, Tryd.ntmps3
  go_wp2_with fail
  refine (walive_any _ T).mono ?_
  rintro e w1 ⟨rfl, hB1⟩
  go_wp2_with (first | (go_at_call 9; refine (add_any _ _ _).mono ?_; rintro e w' ⟨rfl, rfl⟩; simp only [X.out, D.out, G.out, P.out, Q.out, TT.out, R.out, E1.out, E2.out, E3.out]) | (go_at_call 10; refine (dist_any _ _ _).mono ?_; rintro e w' ⟨rfl, rfl⟩; simp only [X.out, D.out, G.out, P.out, Q.out, TT.out, R.out, E1.out, E2.out, E3.out]) | (go_at_call 15; refine (less_any _ _ _).mono ?_; rintro e w' ⟨rfl, rfl⟩; simp only [X.out, D.out, G.out, P.out, Q.out, TT.out, R.out, E1.out, E2.out, E3.out]) | (go_at_call 16; refine (in_any _ _ _ _).mono ?_; rintro e w' ⟨rfl, rfl⟩; simp only [X.out, D.out, G.out, P.out, Q.out, TT.out, R.out, E1.out, E2.out, E3.out]))
  go_ret
  exact ⟨rfl, hB1⟩
set_option maxRecDepth 100000 in
set_option maxHeartbeats 4000000 in
theorem core01 (a b n x d g p q t r : Int) (hX : (a + n) % 4096 = x) (hD : (b - a) % 4096 = d) (hG : (a - b) % 4096 = g) (hP : (b + 0) % 4096 = p) (hQ : (a + 0) % 4096 = q) (hTT : (a + b) % 4096 = t) (hR : (x + b) % 4096 = r) (hE1 : (b + g) % 4096 = q) (hE2 : (a + d) % 4096 = p) (hE3 : (t + n) % 4096 = r) (bx : 0 ≤ x ∧ x < 4096) (bd : 0 ≤ d ∧ d < 4096) (bg : 0 ≤ g ∧ g < 4096) (c1 : (d + g == 0) = true) (c2 : 0 ≤ n) (c3 : 4096 ≤ n) (w : World) (T : Bru w) :
    Calls Tryd.prog 3 #[.int .i64 a, .int .i64 b, .int .i64 n] w fun e w' => e = .returned (.bool true) ∧ Below w.heap.size w w' := by
  have X := Lib.hid hX
  have D := Lib.hid hD
  have G := Lib.hid hG
  have P := Lib.hid hP
  have Q := Lib.hid hQ
  have TT := Lib.hid hTT
  have R := Lib.hid hR
  have E1 := Lib.hid hE1
  have E2 := Lib.hid hE2
  have E3 := Lib.hid hE3
  clear hX hD hG hP hQ hTT hR hE1 hE2 hE3
  go_enter Tryd.func3, Tryd.ntmps3
  go_wp2_with fail
  refine (walive_any _ T).mono ?_
  rintro e w1 ⟨rfl, hB1⟩
  go_wp2_with (first | (go_at_call 9; refine (add_any _ _ _).mono ?_; rintro e w' ⟨rfl, rfl⟩; simp only [X.out, D.out, G.out, P.out, Q.out, TT.out, R.out, E1.out, E2.out, E3.out]) | (go_at_call 10; refine (dist_any _ _ _).mono ?_; rintro e w' ⟨rfl, rfl⟩; simp only [X.out, D.out, G.out, P.out, Q.out, TT.out, R.out, E1.out, E2.out, E3.out]) | (go_at_call 15; refine (less_any _ _ _).mono ?_; rintro e w' ⟨rfl, rfl⟩; simp only [X.out, D.out, G.out, P.out, Q.out, TT.out, R.out, E1.out, E2.out, E3.out]) | (go_at_call 16; refine (in_any _ _ _ _).mono ?_; rintro e w' ⟨rfl, rfl⟩; simp only [X.out, D.out, G.out, P.out, Q.out, TT.out, R.out, E1.out, E2.out, E3.out]))
  go_ret
  exact ⟨rfl, hB1⟩
set_option maxRecDepth 100000 in
set_option maxHeartbeats 4000000 in
theorem core02 (a b n x d g p q t r : Int) (hX : (a + n) % 4096 = x) (hD : (b - a) % 4096 = d) (hG : (a - b) % 4096 = g) (hP : (b + 0) % 4096 = p) (hQ : (a + 0) % 4096 = q) (hTT : (a + b) % 4096 = t) (hR : (x + b) % 4096 = r) (hE1 : (b + g) % 4096 = q) (hE2 : (a + d) % 4096 = p) (hE3 : (t + n) % 4096 = r) (bx : 0 ≤ x ∧ x < 4096) (bd : 0 ≤ d ∧ d < 4096) (bg : 0 ≤ g ∧ g < 4096) (c1 : (d + g == 0) = true) (c2 : 0 ≤ n) (c3 : n < 4096) (h4 : (x - a) % 4096 = n) (w : World) (T : Bru w) :
    Calls Tryd.prog 3 #[.int .i64 a, .int .i64 b, .int .i64 n] w fun e w' => e = .returned (.bool true) ∧ Below w.heap.size w w' := by
  have X := Lib.hid hX
  have D := Lib.hid hD
  have G := Lib.hid hG
  have P := Lib.hid hP
  have Q := Lib.hid hQ
  have TT := Lib.hid hTT
  have R := Lib.hid hR
  have E1 := Lib.hid hE1
  have E2 := Lib.hid hE2
  have E3 := Lib.hid hE3
  clear hX hD hG hP hQ hTT hR hE1 hE2 hE3
  have E4 := Lib.hid h4
  clear h4
  go_enter Tryd.func3, Tryd.ntmps3
  go_wp2_with fail
  refine (walive_any _ T).mono ?_
  rintro e w1 ⟨rfl, hB1⟩
  go_wp2_with (first | (go_at_call 9; refine (add_any _ _ _).mono ?_; rintro e w' ⟨rfl, rfl⟩; simp only [X.out, D.out, G.out, P.out, Q.out, TT.out, R.out, E1.out, E2.out, E3.out, E4.out]) | (go_at_call 10; refine (dist_any _ _ _).mono ?_; rintro e w' ⟨rfl, rfl⟩; simp only [X.out, D.out, G.out, P.out, Q.out, TT.out, R.out, E1.out, E2.out, E3.out, E4.out]) | (go_at_call 15; refine (less_any _ _ _).mono ?_; rintro e w' ⟨rfl, rfl⟩; simp only [X.out, D.out, G.out, P.out, Q.out, TT.out, R.out, E1.out, E2.out, E3.out, E4.out]) | (go_at_call 16; refine (in_any _ _ _ _).mono ?_; rintro e w' ⟨rfl, rfl⟩; simp only [X.out, D.out, G.out, P.out, Q.out, TT.out, R.out, E1.out, E2.out, E3.out, E4.out]))
  go_ret
  exact ⟨rfl, hB1⟩
set_option maxRecDepth 100000 in
set_option maxHeartbeats 4000000 in
theorem core10 (a b n x d g p q t r : Int) (hX : (a + n) % 4096 = x) (hD : (b - a) % 4096 = d) (hG : (a - b) % 4096 = g) (hP : (b + 0) % 4096 = p) (hQ : (a + 0) % 4096 = q) (hTT : (a + b) % 4096 = t) (hR : (x + b) % 4096 = r) (hE1 : (b + g) % 4096 = q) (hE2 : (a + d) % 4096 = p) (hE3 : (t + n) % 4096 = r) (bx : 0 ≤ x ∧ x < 4096) (bd : 0 ≤ d ∧ d < 4096) (bg : 0 ≤ g ∧ g < 4096) (c1 : (d + g == 0) = false) (c4 : (d + g == 4096) = true) (c2 : n < 0) (w : World) (T : Bru w) :
    Calls Tryd.prog 3 #[.int .i64 a, .int .i64 b, .int .i64 n] w fun e w' => e = .returned (.bool true) ∧ Below w.heap.size w w' := by
  have X := Lib.hid hX
  have D := Lib.hid hD
  have G := Lib.hid hG
  have P := Lib.hid hP
  have Q := Lib.hid hQ
  have TT := Lib.hid hTT
  have R := Lib.hid hR
  have E1 := Lib.hid hE1
  have E2 := Lib.hid hE2
  have E3 := Lib.hid hE3
  clear hX hD hG hP hQ hTT hR hE1 hE2 hE3
  go_enter Tryd.func3, Tryd.ntmps3
  go_wp2_with fail
  refine (walive_any _ T).mono ?_
  rintro e w1 ⟨rfl, hB1⟩
  go_wp2_with (first | (go_at_call 9; refine (add_any _ _ _).mono ?_; rintro e w' ⟨rfl, rfl⟩; simp only [X.out, D.out, G.out, P.out, Q.out, TT.out, R.out, E1.out, E2.out, E3.out]) | (go_at_call 10; refine (dist_any _ _ _).mono ?_; rintro e w' ⟨rfl, rfl⟩; simp only [X.out, D.out, G.out, P.out, Q.out, TT.out, R.out, E1.out, E2.out, E3.out]) | (go_at_call 15; refine (less_any _ _ _).mono ?_; rintro e w' ⟨rfl, rfl⟩; simp only [X.out, D.out, G.out, P.out, Q.out, TT.out, R.out, E1.out, E2.out, E3.out]) | (go_at_call 16; refine (in_any _ _ _ _).mono ?_; rintro e w' ⟨rfl, rfl⟩; simp only [X.out, D.out, G.out, P.out, Q.out, TT.out, R.out, E1.out, E2.out, E3.out]))
  go_ret
  exact ⟨rfl, hB1⟩
set_option maxRecDepth 100000 in
set_option maxHeartbeats 4000000 in
theorem core11 (a b n x d g p q t r : Int) (hX : (a + n) % 4096 = x) (hD : (b - a) % 4096 = d) (hG : (a - b) % 4096 = g) (hP : (b + 0) % 4096 = p) (hQ : (a + 0) % 4096 = q) (hTT : (a + b) % 4096 = t) (hR : (x + b) % 4096 = r) (hE1 : (b + g) % 4096 = q) (hE2 : (a + d) % 4096 = p) (hE3 : (t + n) % 4096 = r) (bx : 0 ≤ x ∧ x < 4096) (bd : 0 ≤ d ∧ d < 4096) (bg : 0 ≤ g ∧ g < 4096) (c1 : (d + g == 0) = false) (c4 : (d + g == 4096) = true) (c2 : 0 ≤ n) (c3 : 4096 ≤ n) (w : World) (T : Bru w) :
    Calls Tryd.prog 3 #[.int .i64 a, .int .i64 b, .int .i64 n] w fun e w' => e = .returned (.bool true) ∧ Below w.heap.size w w' := by
  have X := Lib.hid hX
  have D := Lib.hid hD
  have G := Lib.hid hG
  have P := Lib.hid hP
  have Q := Lib.hid hQ
  have TT := Lib.hid hTT
  have R := Lib.hid hR
  have E1 := Lib.hid hE1
  have E2 := Lib.hid hE2
  have E3 := Lib.hid hE3
  clear hX hD hG hP hQ hTT hR hE1 hE2 hE3
  go_enter Tryd.func3, Tryd.ntmps3
  go_wp2_with fail
  refine (walive_any _ T).mono ?_
  rintro e w1 ⟨rfl, hB1⟩
  go_wp2_with (first | (go_at_call 9; refine (add_any _ _ _).mono ?_; rintro e w' ⟨rfl, rfl⟩; simp only [X.out, D.out, G.out, P.out, Q.out, TT.out, R.out, E1.out, E2.out, E3.out]) | (go_at_call 10; refine (dist_any _ _ _).mono ?_; rintro e w' ⟨rfl, rfl⟩; simp only [X.out, D.out, G.out, P.out, Q.out, TT.out, R.out, E1.out, E2.out, E3.out]) | (go_at_call 15; refine (less_any _ _ _).mono ?_; rintro e w' ⟨rfl, rfl⟩; simp only [X.out, D.out, G.out, P.out, Q.out, TT.out, R.out, E1.out, E2.out, E3.out]) | (go_at_call 16; refine (in_any _ _ _ _).mono ?_; rintro e w' ⟨rfl, rfl⟩; simp only [X.out, D.out, G.out, P.out, Q.out, TT.out, R.out, E1.out, E2.out, E3.out]))
  go_ret
  exact ⟨rfl, hB1⟩
set_option maxRecDepth 100000 in
set_option maxHeartbeats 4000000 in
theorem core12 (a b n x d g p q t r : Int) (hX : (a + n) % 4096 = x) (hD : (b - a) % 4096 = d) (hG : (a - b) % 4096 = g) (hP : (b + 0) % 4096 = p) (hQ : (a + 0) % 4096 = q) (hTT : (a + b) % 4096 = t) (hR : (x + b) % 4096 = r) (hE1 : (b + g) % 4096 = q) (hE2 : (a + d) % 4096 = p) (hE3 : (t + n) % 4096 = r) (bx : 0 ≤ x ∧ x < 4096) (bd : 0 ≤ d ∧ d < 4096) (bg : 0 ≤ g ∧ g < 4096) (c1 : (d + g == 0) = false) (c4 : (d + g == 4096) = true) (c2 : 0 ≤ n) (c3 : n < 4096) (h4 : (x - a) % 4096 = n) (w : World) (T : Bru w) :
    Calls Tryd.prog 3 #[.int .i64 a, .int .i64 b, .int .i64 n] w fun e w' => e = .returned (.bool true) ∧ Below w.heap.size w w' := by
  have X := Lib.hid hX
  have D := Lib.hid hD
  have G := Lib.hid hG
  have P := Lib.hid hP
  have Q := Lib.hid hQ
  have TT := Lib.hid hTT
  have R := Lib.hid hR
  have E1 := Lib.hid hE1
  have E2 := Lib.hid hE2
  have E3 := Lib.hid hE3
  clear hX hD hG hP hQ hTT hR hE1 hE2 hE3
  have E4 := Lib.hid h4
  clear h4
  go_enter Tryd.func3, Tryd.ntmps3
  go_wp2_with fail
  refine (walive_any _ T).mono ?_
  rintro e w1 ⟨rfl, hB1⟩
  go_wp2_with (first | (go_at_call 9; refine (add_any _ _ _).mono ?_; rintro e w' ⟨rfl, rfl⟩; simp only [X.out, D.out, G.out, P.out, Q.out, TT.out, R.out, E1.out, E2.out, E3.out, E4.out]) | (go_at_call 10; refine (dist_any _ _ _).mono ?_; rintro e w' ⟨rfl, rfl⟩; simp only [X.out, D.out, G.out, P.out, Q.out, TT.out, R.out, E1.out, E2.out, E3.out, E4.out]) | (go_at_call 15; refine (less_any _ _ _).mono ?_; rintro e w' ⟨rfl, rfl⟩; simp only [X.out, D.out, G.out, P.out, Q.out, TT.out, R.out, E1.out, E2.out, E3.out, E4.out]) | (go_at_call 16; refine (in_any _ _ _ _).mono ?_; rintro e w' ⟨rfl, rfl⟩; simp only [X.out, D.out, G.out, P.out, Q.out, TT.out, R.out, E1.out, E2.out, E3.out, E4.out]))
  go_ret
  exact ⟨rfl, hB1⟩
theorem t1 (y : Int) : y % 4096 + (-y) % 4096 = 0 ∨ y % 4096 + (-y) % 4096 = 4096 := by omega
theorem t2 (a b : Int) : (b - a) % 4096 + (a - b) % 4096 = 0 ∨ (b - a) % 4096 + (a - b) % 4096 = 4096 := by
  have := t1 (b - a); rw [Int.neg_sub] at this; exact this
theorem t3 (a n : Int) (h0 : 0 ≤ n) (h1 : n < 4096) : ((a + n) % 4096 - a) % 4096 = n := by
  rw [Int.emod_sub_emod, show a + n - a = n by omega]; omega
theorem t4 (a b : Int) : (b + (a - b) % 4096) % 4096 = (a + 0) % 4096 := by
  rw [Int.add_emod_emod, show b + (a - b) = a + 0 by omega]
theorem t5 (a b n : Int) : ((a + b) % 4096 + n) % 4096 = ((a + n) % 4096 + b) % 4096 := by
  rw [Int.emod_add_emod, Int.emod_add_emod, show a + b + n = a + n + b by omega]
theorem walk (a b n : Int) (_ : -9223372036854775808 ≤ a ∧ a ≤ 9223372036854775807) (_ : -9223372036854775808 ≤ b ∧ b ≤ 9223372036854775807) (_ : -9223372036854775808 ≤ n ∧ n ≤ 9223372036854775807) (w : World) (T : Bru w) :
    Calls Tryd.prog 3 #[.int .i64 a, .int .i64 b, .int .i64 n] w fun e w' => e = .returned (.bool true) ∧ Below w.heap.size w w' := by
  have bx : 0 ≤ (a + n) % 4096 ∧ (a + n) % 4096 < 4096 := ⟨Int.emod_nonneg _ (by omega), Int.emod_lt_of_pos _ (by omega)⟩
  have bd : 0 ≤ (b - a) % 4096 ∧ (b - a) % 4096 < 4096 := ⟨Int.emod_nonneg _ (by omega), Int.emod_lt_of_pos _ (by omega)⟩
  have bg : 0 ≤ (a - b) % 4096 ∧ (a - b) % 4096 < 4096 := ⟨Int.emod_nonneg _ (by omega), Int.emod_lt_of_pos _ (by omega)⟩
  have e1 := t4 a b
  have e2 := t4 b a
  have e3 := t5 a b n
  have c1 : ((b - a) % 4096 + (a - b) % 4096 == 0) = true ∨ (((b - a) % 4096 + (a - b) % 4096 == 0) = false ∧ ((b - a) % 4096 + (a - b) % 4096 == 4096) = true) := by
    rcases t2 a b with h | h
    · rw [h]; exact .inl rfl
    · rw [h]; exact .inr ⟨rfl, rfl⟩
  have e4 := t3 a n
  rcases Int.lt_or_le n 0 with c2 | c2
  · rcases c1 with c1 | ⟨c1, c4⟩
    · exact core00 a b n _ _ _ _ _ _ _ rfl rfl rfl rfl rfl rfl rfl e1 e2 e3 bx bd bg c1 c2 w T
    · exact core10 a b n _ _ _ _ _ _ _ rfl rfl rfl rfl rfl rfl rfl e1 e2 e3 bx bd bg c1 c4 c2 w T
  · rcases Int.lt_or_le n 4096 with c3 | c3
    · rcases c1 with c1 | ⟨c1, c4⟩
      · exact core02 a b n _ _ _ _ _ _ _ rfl rfl rfl rfl rfl rfl rfl e1 e2 e3 bx bd bg c1 c2 c3 (e4 c2 c3) w T
      · exact core12 a b n _ _ _ _ _ _ _ rfl rfl rfl rfl rfl rfl rfl e1 e2 e3 bx bd bg c1 c4 c2 c3 (e4 c2 c3) w T
    · rcases c1 with c1 | ⟨c1, c4⟩
      · exact core01 a b n _ _ _ _ _ _ _ rfl rfl rfl rfl rfl rfl rfl e1 e2 e3 bx bd bg c1 c2 c3 w T
      · exact core11 a b n _ _ _ _ _ _ _ rfl rfl rfl rfl rfl rfl rfl e1 e2 e3 bx bd bg c1 c4 c2 c3 w T
end Go.Proofs.YtclahaafpiekeaaDoor.windowGroup
