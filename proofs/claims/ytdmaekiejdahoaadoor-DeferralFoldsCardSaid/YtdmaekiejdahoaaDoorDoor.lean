/-
  The contracts of deferral's Space, Until, Reserved, Earliest, Slots, and those of the reference: over the table 'slots' (a hypothesis on the world: Tab).
-/
import Derived.Test.YtdmaekiejdahoaaDoorDefHeard
namespace Go.Proofs.YtdmaekiejdahoaaDoor
open Go.ChangeShapes Go.WideShapes Go.ChangeAt Go.RowKit

/-- The table's four cells. -/
structure Tab (w : World) : Prop where
  c0 : w.cell? ⟨1, 0, none⟩ = some (.int .i64 7)
  c1 : w.cell? ⟨1, 1, none⟩ = some (.int .i64 3)
  c2 : w.cell? ⟨1, 2, none⟩ = some (.int .i64 2)
  c3 : w.cell? ⟨1, 3, none⟩ = some (.int .i64 2)
theorem below_kept {w w' : World} (h : Below w.heap.size w w') {a : Addr} {v : Value} (hc : w.cell? a = some v) : w'.cell? a = some v := by
  rw [h.cell (World.block_lt_of_cell? w a hc)]
  exact hc
theorem Tab.below {w w' : World} (T : Tab w) (h : Below w.heap.size w w') : Tab w' :=
  ⟨below_kept h T.c0, below_kept h T.c1, below_kept h T.c2, below_kept h T.c3⟩

def spaceN (c : Int) : Int := if c = 0 then 79 else if c = 1 then 43 else if c < 4 then 34 else 0
def spaceE (c : Int) : Int := if c < 4 then 0 else 2
theorem space_any (c : Int) (hc : 0 ≤ c ∧ c ≤ 255) (w : World) (T : Tab w) : Calls Tryd.prog 8 #[.int .u8 c] w fun e w' => e = .returned (.tuple #[.int .i64 (spaceN c), .int .i64 (spaceE c)]) ∧ Below w.heap.size w w' := by
  obtain ⟨c0, c1, c2, c3⟩ := T
  by_cases h : c < 4
  · have h4 : c = 0 ∨ c = 1 ∨ c = 2 ∨ c = 3 := by omega
    rcases h4 with rfl | rfl | rfl | rfl
    all_goals
      clear h hc
      go_enter Tryd.func8, Tryd.ntmps8
      go_wp2
      go_ret2
      exact ⟨rfl, by go_grown⟩
  · have t : decide (4 ≤ c) = true := by simp; omega
    have x1 : spaceN c = 0 := by simp only [spaceN]; repeat (first | rw [if_neg (by omega)] | rfl)
    have x2 : spaceE c = 2 := by simp only [spaceE]; rw [if_neg h]
    rw [x1, x2]
    clear x1 x2
    go_enter Tryd.func8, Tryd.ntmps8
    go_wp2
    go_ret2
    exact ⟨rfl, by go_grown⟩
theorem refspace_any (c : Int) (hc : 0 ≤ c ∧ c ≤ 255) (w : World) : Calls Tryd.prog 9 #[.int .u8 c] w fun e w' => e = .returned (.tuple #[.int .i64 (spaceN c), .int .i64 (spaceE c)]) ∧ Below w.heap.size w w' := by
  by_cases h : c < 4
  · have h4 : c = 0 ∨ c = 1 ∨ c = 2 ∨ c = 3 := by omega
    rcases h4 with rfl | rfl | rfl | rfl
    all_goals
      clear h hc
      go_enter Tryd.func9, Tryd.ntmps9
      go_wp2
      go_ret2
      exact ⟨rfl, by go_grown⟩
  · have t0 : (c == 0) = false := by simp; omega
    have t1 : (c == 1) = false := by simp; omega
    have t2 : (c == 2) = false := by simp; omega
    have t3 : (c == 3) = false := by simp; omega
    have x1 : spaceN c = 0 := by simp only [spaceN]; repeat (first | rw [if_neg (by omega)] | rfl)
    have x2 : spaceE c = 2 := by simp only [spaceE]; rw [if_neg h]
    rw [x1, x2]
    clear x1 x2
    go_enter Tryd.func9, Tryd.ntmps9
    go_wp2
    go_ret2
    exact ⟨rfl, by go_grown⟩

theorem refin_any (t : Int) (w : World) : Calls Tryd.prog 25 #[.int .i64 t] w fun e w' => e = .returned (.bool (timeB t)) ∧ w = w' := by
  by_cases h1 : 0 ≤ t <;> by_cases h2 : t ≤ 2199023255552
  all_goals
    go_enter Tryd.func25, Tryd.ntmps25
    go_wp2
    go_ret
    refine ⟨fr_retb ?_, rfl⟩
    first | (rw [timeB_yes ⟨by omega, by omega⟩]; done) | (rw [timeB_no (by omega)]; done) | (rw [timeB_yes ⟨by omega, by omega⟩]; simp; omega) | (rw [timeB_no (by omega)]; simp; omega)

theorem refcheck_any (u l : Int) (w : World) : Calls Tryd.prog 19 #[.agg #[.int .i64 u, .int .i64 l]] w fun e w' => e = .returned (.int .i64 (navE u l)) ∧ Below w.heap.size w w' := by
  have c1 : timeB u = true ∨ timeB u = false := by cases timeB u <;> simp
  have c2 : timeB l = true ∨ timeB l = false := by cases timeB l <;> simp
  rcases c1 with c1 | c1 <;> rcases c2 with c2 | c2
  all_goals
    have he := Lib.hid (show navE u l = _ by simp only [navE, c1, c2]; rfl)
    go_enter Tryd.func19, Tryd.ntmps19
    go_wp2_with (go_at_call 25; refine (refin_any _ _).mono ?_; rintro e w' ⟨rfl, rfl⟩)
    go_ret
    exact ⟨fr_ret he.out.symm, by go_grown⟩

theorem refend_any (u l : Int) (w : World) : Calls Tryd.prog 23 #[.agg #[.int .i64 u, .int .i64 l]] w fun e w' => e = .returned (.int .i64 (navEnd u l)) ∧ Below w.heap.size w w' := by
  by_cases h1 : 0 < l
  · by_cases h2 : l < u
    all_goals
      go_enter Tryd.func23, Tryd.ntmps23
      go_wp2
      all_goals go_ret
      all_goals exact ⟨fr_ret (by simp only [navEnd]; split <;> omega), by go_grown⟩
  · go_enter Tryd.func23, Tryd.ntmps23
    go_wp2
    go_ret
    exact ⟨fr_ret (by simp only [navEnd]; split <;> omega), by go_grown⟩

theorem two_ret {a b : Int} {v : Value} (h : a = b) : Ending.returned (.tuple #[.int .i64 b, v]) = .returned (.tuple #[.int .i64 a, v]) := by rw [h]
theorem nav_two (u l : Int) : navE u l = 0 ∨ navE u l = 8 := by simp only [navE]; split <;> simp
theorem space_two (c : Int) : spaceE c = 0 ∨ spaceE c = 2 := by simp only [spaceE]; split <;> simp
/-- What the functions come to: numbers and errors. -/
def untN (u l : Int) : Int := if navE u l = 0 then navEnd u l else 0
def resB (u l n : Int) : Bool := decide (navE u l = 0) && timeB n && decide (n < navEnd u l)
def resE (u l n : Int) : Int := if navE u l = 0 then (if timeB n then 0 else 2) else 8
def earE (u l i c : Int) : Int := if navE u l = 0 then (if spaceE c = 0 ∧ timeB i = true then 0 else 2) else 8
def earN (u l i c : Int) : Int := if navE u l = 0 then (if spaceE c = 0 ∧ timeB i = true then max i (navEnd u l) + spaceN c else 0) else 0
def slotE (u l i c n : Int) : Int := if earE u l i c = 0 then (if timeB n then 0 else 2) else earE u l i c
def slotN (u l i c n : Int) : Int := if earE u l i c = 0 then (if timeB n then max (n - earN u l i c) 0 / 9 else 0) else 0
theorem Tab.alloc {w : World} (T : Tab w) {o : Obj} : Tab (w.alloc o) := T.below ((Below.refl _ _).alloc (Nat.le_refl _) _)
theorem early_bounds (u l i c : Int) (h : navE u l = 0) (s : spaceE c = 0) (t : timeB i = true) : -9223372036854775808 ≤ max i (navEnd u l) + spaceN c ∧ max i (navEnd u l) + spaceN c ≤ 9223372036854775807 := by
  have h' : timeB u = true ∧ timeB l = true := by simp only [navE] at h; split at h <;> simp_all
  obtain ⟨h1, h2⟩ := h'
  simp only [timeB, decide_eq_true_eq] at h1 h2 t
  simp only [navEnd, spaceN]
  split <;> split <;> (try split) <;> (try split) <;> omega
theorem earN_bounds (u l i c : Int) : 0 ≤ earN u l i c ∧ earN u l i c ≤ 4398046511104 := by
  simp only [earN]
  split
  · rename_i h
    split
    · rename_i h2
      obtain ⟨s, t⟩ := h2
      have h' : timeB u = true ∧ timeB l = true := by simp only [navE] at h; split at h <;> simp_all
      obtain ⟨h1, h2⟩ := h'
      simp only [timeB, decide_eq_true_eq] at h1 h2 t
      simp only [navEnd, spaceN]
      split <;> split <;> (try split) <;> (try split) <;> omega
    · omega
  · omega
theorem until_bad (u l : Int) (h : navE u l = 8) (w : World) : Calls Tryd.prog 10 #[.agg #[.int .i64 u, .int .i64 l]] w fun e w' => e = .returned (.tuple #[.int .i64 0, .int .i64 8]) ∧ Below w.heap.size w w' := by
  go_enter Tryd.func10, Tryd.ntmps10
  go_wp2_with fail
  refine (check_any u l _).mono ?_
  rintro e w1 ⟨rfl, hb1⟩
  have hz1 := hb1.size
  simp only [World.size_alloc] at hz1
  have hB1 : Below w.heap.size w w1 := ((Below.refl _ _).alloc (Nat.le_refl _) _).trans (hb1.mono (by simp))
  have rn := fr_rows1 w (.cells #[.int .i64 u, .int .i64 l] 23)
  have rw1 := (hb1.block _ (by simp only [World.size_alloc]; omega)).trans rn
  have n0w1 : w1.cell? ⟨w.heap.size, 0, none⟩ = some (.int .i64 u) := (cell_of_row _ _ _ _ _ _ rw1).trans rfl
  have n1w1 : w1.cell? ⟨w.heap.size, 1, none⟩ = some (.int .i64 l) := (cell_of_row _ _ _ _ _ _ rw1).trans rfl
  have y1 : w.heap.size < w1.heap.size := by omega
  clear hb1 rn hz1
  simp only [h]
  go_wp2
  go_ret2
  exact ⟨rfl, hB1⟩
theorem until_ok (u l : Int) (h : navE u l = 0) (w : World) : Calls Tryd.prog 10 #[.agg #[.int .i64 u, .int .i64 l]] w fun e w' => e = .returned (.tuple #[.int .i64 (navEnd u l), .int .i64 0]) ∧ Below w.heap.size w w' := by
  go_enter Tryd.func10, Tryd.ntmps10
  go_wp2_with fail
  refine (check_any u l _).mono ?_
  rintro e w1 ⟨rfl, hb1⟩
  have hz1 := hb1.size
  simp only [World.size_alloc] at hz1
  have hB1 : Below w.heap.size w w1 := ((Below.refl _ _).alloc (Nat.le_refl _) _).trans (hb1.mono (by simp))
  have rn := fr_rows1 w (.cells #[.int .i64 u, .int .i64 l] 23)
  have rw1 := (hb1.block _ (by simp only [World.size_alloc]; omega)).trans rn
  have n0w1 : w1.cell? ⟨w.heap.size, 0, none⟩ = some (.int .i64 u) := (cell_of_row _ _ _ _ _ _ rw1).trans rfl
  have n1w1 : w1.cell? ⟨w.heap.size, 1, none⟩ = some (.int .i64 l) := (cell_of_row _ _ _ _ _ _ rw1).trans rfl
  have y1 : w.heap.size < w1.heap.size := by omega
  clear hb1 rn hz1
  simp only [h]
  go_wp2_with fail
  refine (until_any u l _).mono ?_
  rintro e w2 ⟨rfl, hb2⟩
  have hB2 := hB1.trans (hb2.mono (Nat.le_of_lt y1))
  have rw2 := (hb2.block _ y1).trans rw1
  have n0w2 : w2.cell? ⟨w.heap.size, 0, none⟩ = some (.int .i64 u) := (cell_of_row _ _ _ _ _ _ rw2).trans rfl
  have n1w2 : w2.cell? ⟨w.heap.size, 1, none⟩ = some (.int .i64 l) := (cell_of_row _ _ _ _ _ _ rw2).trans rfl
  have y2 : w.heap.size < w2.heap.size := Nat.lt_of_lt_of_le y1 hb2.size
  clear hb2 rw1 n0w1 n1w1 y1
  go_wp2
  go_ret2
  exact ⟨rfl, hB2⟩
theorem reserved_bad (u l n : Int) (h : navE u l = 8) (w : World) : Calls Tryd.prog 12 #[.agg #[.int .i64 u, .int .i64 l], .int .i64 n] w fun e w' => e = .returned (.tuple #[.bool false, .int .i64 8]) ∧ Below w.heap.size w w' := by
  go_enter Tryd.func12, Tryd.ntmps12
  go_wp2_with fail
  refine (check_any u l _).mono ?_
  rintro e w1 ⟨rfl, hb1⟩
  have hz1 := hb1.size
  simp only [World.size_alloc] at hz1
  have hB1 : Below w.heap.size w w1 := ((Below.refl _ _).alloc (Nat.le_refl _) _).trans (hb1.mono (by simp))
  have rn := fr_rows1 w (.cells #[.int .i64 u, .int .i64 l] 23)
  have rw1 := (hb1.block _ (by simp only [World.size_alloc]; omega)).trans rn
  have n0w1 : w1.cell? ⟨w.heap.size, 0, none⟩ = some (.int .i64 u) := (cell_of_row _ _ _ _ _ _ rw1).trans rfl
  have n1w1 : w1.cell? ⟨w.heap.size, 1, none⟩ = some (.int .i64 l) := (cell_of_row _ _ _ _ _ _ rw1).trans rfl
  have y1 : w.heap.size < w1.heap.size := by omega
  clear hb1 rn hz1
  simp only [h]
  go_wp2
  go_ret2
  exact ⟨rfl, hB1⟩
theorem reserved_arg (u l n : Int) (h : navE u l = 0) (t : timeB n = false) (w : World) : Calls Tryd.prog 12 #[.agg #[.int .i64 u, .int .i64 l], .int .i64 n] w fun e w' => e = .returned (.tuple #[.bool false, .int .i64 2]) ∧ Below w.heap.size w w' := by
  go_enter Tryd.func12, Tryd.ntmps12
  go_wp2_with fail
  refine (check_any u l _).mono ?_
  rintro e w1 ⟨rfl, hb1⟩
  have hz1 := hb1.size
  simp only [World.size_alloc] at hz1
  have hB1 : Below w.heap.size w w1 := ((Below.refl _ _).alloc (Nat.le_refl _) _).trans (hb1.mono (by simp))
  have rn := fr_rows1 w (.cells #[.int .i64 u, .int .i64 l] 23)
  have rw1 := (hb1.block _ (by simp only [World.size_alloc]; omega)).trans rn
  have n0w1 : w1.cell? ⟨w.heap.size, 0, none⟩ = some (.int .i64 u) := (cell_of_row _ _ _ _ _ _ rw1).trans rfl
  have n1w1 : w1.cell? ⟨w.heap.size, 1, none⟩ = some (.int .i64 l) := (cell_of_row _ _ _ _ _ _ rw1).trans rfl
  have y1 : w.heap.size < w1.heap.size := by omega
  clear hb1 rn hz1
  simp only [h]
  go_wp2_with fail
  refine (time_any n _).mono ?_
  rintro e w' ⟨rfl, rfl⟩
  simp only [t]
  go_wp2
  go_ret2
  exact ⟨rfl, hB1⟩
theorem reserved_ok (u l n : Int) (h : navE u l = 0) (t : timeB n = true) (w : World) : Calls Tryd.prog 12 #[.agg #[.int .i64 u, .int .i64 l], .int .i64 n] w fun e w' => e = .returned (.tuple #[.bool (decide (n < navEnd u l)), .int .i64 0]) ∧ Below w.heap.size w w' := by
  go_enter Tryd.func12, Tryd.ntmps12
  go_wp2_with fail
  refine (check_any u l _).mono ?_
  rintro e w1 ⟨rfl, hb1⟩
  have hz1 := hb1.size
  simp only [World.size_alloc] at hz1
  have hB1 : Below w.heap.size w w1 := ((Below.refl _ _).alloc (Nat.le_refl _) _).trans (hb1.mono (by simp))
  have rn := fr_rows1 w (.cells #[.int .i64 u, .int .i64 l] 23)
  have rw1 := (hb1.block _ (by simp only [World.size_alloc]; omega)).trans rn
  have n0w1 : w1.cell? ⟨w.heap.size, 0, none⟩ = some (.int .i64 u) := (cell_of_row _ _ _ _ _ _ rw1).trans rfl
  have n1w1 : w1.cell? ⟨w.heap.size, 1, none⟩ = some (.int .i64 l) := (cell_of_row _ _ _ _ _ _ rw1).trans rfl
  have y1 : w.heap.size < w1.heap.size := by omega
  clear hb1 rn hz1
  simp only [h]
  go_wp2_with fail
  refine (time_any n _).mono ?_
  rintro e w' ⟨rfl, rfl⟩
  simp only [t]
  go_wp2_with fail
  refine (until_any u l _).mono ?_
  rintro e w2 ⟨rfl, hb2⟩
  have hB2 := hB1.trans (hb2.mono (Nat.le_of_lt y1))
  have rw2 := (hb2.block _ y1).trans rw1
  have n0w2 : w2.cell? ⟨w.heap.size, 0, none⟩ = some (.int .i64 u) := (cell_of_row _ _ _ _ _ _ rw2).trans rfl
  have n1w2 : w2.cell? ⟨w.heap.size, 1, none⟩ = some (.int .i64 l) := (cell_of_row _ _ _ _ _ _ rw2).trans rfl
  have y2 : w.heap.size < w2.heap.size := Nat.lt_of_lt_of_le y1 hb2.size
  clear hb2 rw1 n0w1 n1w1 y1
  go_wp2
  go_ret2
  exact ⟨rfl, hB2⟩
theorem earliest_bad (u l i c : Int) (hc : 0 ≤ c ∧ c ≤ 255) (h : navE u l = 8) (w : World) (T : Tab w) : Calls Tryd.prog 14 #[.agg #[.int .i64 u, .int .i64 l], .int .i64 i, .int .u8 c] w fun e w' => e = .returned (.tuple #[.int .i64 0, .int .i64 8]) ∧ Below w.heap.size w w' := by
  go_enter Tryd.func14, Tryd.ntmps14
  go_wp2_with fail
  refine (check_any u l _).mono ?_
  rintro e w1 ⟨rfl, hb1⟩
  have hz1 := hb1.size
  simp only [World.size_alloc] at hz1
  have hB1 : Below w.heap.size w w1 := ((Below.refl _ _).alloc (Nat.le_refl _) _).trans (hb1.mono (by simp))
  have rn := fr_rows1 w (.cells #[.int .i64 u, .int .i64 l] 23)
  have rw1 := (hb1.block _ (by simp only [World.size_alloc]; omega)).trans rn
  have n0w1 : w1.cell? ⟨w.heap.size, 0, none⟩ = some (.int .i64 u) := (cell_of_row _ _ _ _ _ _ rw1).trans rfl
  have n1w1 : w1.cell? ⟨w.heap.size, 1, none⟩ = some (.int .i64 l) := (cell_of_row _ _ _ _ _ _ rw1).trans rfl
  have y1 : w.heap.size < w1.heap.size := by omega
  clear hb1 rn hz1
  simp only [h]
  go_wp2
  go_ret2
  exact ⟨rfl, hB1⟩
theorem earliest_cat (u l i c : Int) (hc : 0 ≤ c ∧ c ≤ 255) (h : navE u l = 0) (s : spaceE c = 2) (w : World) (T : Tab w) : Calls Tryd.prog 14 #[.agg #[.int .i64 u, .int .i64 l], .int .i64 i, .int .u8 c] w fun e w' => e = .returned (.tuple #[.int .i64 0, .int .i64 2]) ∧ Below w.heap.size w w' := by
  go_enter Tryd.func14, Tryd.ntmps14
  go_wp2_with fail
  refine (check_any u l _).mono ?_
  rintro e w1 ⟨rfl, hb1⟩
  have hz1 := hb1.size
  simp only [World.size_alloc] at hz1
  have hB1 : Below w.heap.size w w1 := ((Below.refl _ _).alloc (Nat.le_refl _) _).trans (hb1.mono (by simp))
  have rn := fr_rows1 w (.cells #[.int .i64 u, .int .i64 l] 23)
  have rw1 := (hb1.block _ (by simp only [World.size_alloc]; omega)).trans rn
  have n0w1 : w1.cell? ⟨w.heap.size, 0, none⟩ = some (.int .i64 u) := (cell_of_row _ _ _ _ _ _ rw1).trans rfl
  have n1w1 : w1.cell? ⟨w.heap.size, 1, none⟩ = some (.int .i64 l) := (cell_of_row _ _ _ _ _ _ rw1).trans rfl
  have y1 : w.heap.size < w1.heap.size := by omega
  clear hb1 rn hz1
  simp only [h]
  go_wp2_with fail
  refine (space_any c hc _ (T.below hB1)).mono ?_
  rintro e w2 ⟨rfl, hb2⟩
  have hB2 := hB1.trans (hb2.mono (Nat.le_of_lt y1))
  have rw2 := (hb2.block _ y1).trans rw1
  have n0w2 : w2.cell? ⟨w.heap.size, 0, none⟩ = some (.int .i64 u) := (cell_of_row _ _ _ _ _ _ rw2).trans rfl
  have n1w2 : w2.cell? ⟨w.heap.size, 1, none⟩ = some (.int .i64 l) := (cell_of_row _ _ _ _ _ _ rw2).trans rfl
  have y2 : w.heap.size < w2.heap.size := Nat.lt_of_lt_of_le y1 hb2.size
  clear hb2 rw1 n0w1 n1w1 y1
  simp only [s]
  go_wp2
  go_ret2
  exact ⟨rfl, hB2⟩
theorem earliest_arg (u l i c : Int) (hc : 0 ≤ c ∧ c ≤ 255) (h : navE u l = 0) (s : spaceE c = 0) (t : timeB i = false) (w : World) (T : Tab w) : Calls Tryd.prog 14 #[.agg #[.int .i64 u, .int .i64 l], .int .i64 i, .int .u8 c] w fun e w' => e = .returned (.tuple #[.int .i64 0, .int .i64 2]) ∧ Below w.heap.size w w' := by
  go_enter Tryd.func14, Tryd.ntmps14
  go_wp2_with fail
  refine (check_any u l _).mono ?_
  rintro e w1 ⟨rfl, hb1⟩
  have hz1 := hb1.size
  simp only [World.size_alloc] at hz1
  have hB1 : Below w.heap.size w w1 := ((Below.refl _ _).alloc (Nat.le_refl _) _).trans (hb1.mono (by simp))
  have rn := fr_rows1 w (.cells #[.int .i64 u, .int .i64 l] 23)
  have rw1 := (hb1.block _ (by simp only [World.size_alloc]; omega)).trans rn
  have n0w1 : w1.cell? ⟨w.heap.size, 0, none⟩ = some (.int .i64 u) := (cell_of_row _ _ _ _ _ _ rw1).trans rfl
  have n1w1 : w1.cell? ⟨w.heap.size, 1, none⟩ = some (.int .i64 l) := (cell_of_row _ _ _ _ _ _ rw1).trans rfl
  have y1 : w.heap.size < w1.heap.size := by omega
  clear hb1 rn hz1
  simp only [h]
  go_wp2_with fail
  refine (space_any c hc _ (T.below hB1)).mono ?_
  rintro e w2 ⟨rfl, hb2⟩
  have hB2 := hB1.trans (hb2.mono (Nat.le_of_lt y1))
  have rw2 := (hb2.block _ y1).trans rw1
  have n0w2 : w2.cell? ⟨w.heap.size, 0, none⟩ = some (.int .i64 u) := (cell_of_row _ _ _ _ _ _ rw2).trans rfl
  have n1w2 : w2.cell? ⟨w.heap.size, 1, none⟩ = some (.int .i64 l) := (cell_of_row _ _ _ _ _ _ rw2).trans rfl
  have y2 : w.heap.size < w2.heap.size := Nat.lt_of_lt_of_le y1 hb2.size
  clear hb2 rw1 n0w1 n1w1 y1
  simp only [s]
  go_wp2_with fail
  refine (time_any i _).mono ?_
  rintro e w' ⟨rfl, rfl⟩
  simp only [t]
  go_wp2
  go_ret2
  exact ⟨rfl, hB2⟩
theorem earliest_ok (u l i c : Int) (hc : 0 ≤ c ∧ c ≤ 255) (h : navE u l = 0) (s : spaceE c = 0) (t : timeB i = true) (w : World) (T : Tab w) : Calls Tryd.prog 14 #[.agg #[.int .i64 u, .int .i64 l], .int .i64 i, .int .u8 c] w fun e w' => e = .returned (.tuple #[.int .i64 (max i (navEnd u l) + spaceN c), .int .i64 0]) ∧ Below w.heap.size w w' := by
  obtain ⟨g0, g1⟩ := early_bounds u l i c h s t
  go_enter Tryd.func14, Tryd.ntmps14
  go_wp2_with fail
  refine (check_any u l _).mono ?_
  rintro e w1 ⟨rfl, hb1⟩
  have hz1 := hb1.size
  simp only [World.size_alloc] at hz1
  have hB1 : Below w.heap.size w w1 := ((Below.refl _ _).alloc (Nat.le_refl _) _).trans (hb1.mono (by simp))
  have rn := fr_rows1 w (.cells #[.int .i64 u, .int .i64 l] 23)
  have rw1 := (hb1.block _ (by simp only [World.size_alloc]; omega)).trans rn
  have n0w1 : w1.cell? ⟨w.heap.size, 0, none⟩ = some (.int .i64 u) := (cell_of_row _ _ _ _ _ _ rw1).trans rfl
  have n1w1 : w1.cell? ⟨w.heap.size, 1, none⟩ = some (.int .i64 l) := (cell_of_row _ _ _ _ _ _ rw1).trans rfl
  have y1 : w.heap.size < w1.heap.size := by omega
  clear hb1 rn hz1
  simp only [h]
  go_wp2_with fail
  refine (space_any c hc _ (T.below hB1)).mono ?_
  rintro e w2 ⟨rfl, hb2⟩
  have hB2 := hB1.trans (hb2.mono (Nat.le_of_lt y1))
  have rw2 := (hb2.block _ y1).trans rw1
  have n0w2 : w2.cell? ⟨w.heap.size, 0, none⟩ = some (.int .i64 u) := (cell_of_row _ _ _ _ _ _ rw2).trans rfl
  have n1w2 : w2.cell? ⟨w.heap.size, 1, none⟩ = some (.int .i64 l) := (cell_of_row _ _ _ _ _ _ rw2).trans rfl
  have y2 : w.heap.size < w2.heap.size := Nat.lt_of_lt_of_le y1 hb2.size
  clear hb2 rw1 n0w1 n1w1 y1
  simp only [s]
  go_wp2_with fail
  refine (time_any i _).mono ?_
  rintro e w' ⟨rfl, rfl⟩
  simp only [t]
  go_wp2_with fail
  refine (until_any u l _).mono ?_
  rintro e w3 ⟨rfl, hb3⟩
  have hB3 := hB2.trans (hb3.mono (Nat.le_of_lt y2))
  have rw3 := (hb3.block _ y2).trans rw2
  have n0w3 : w3.cell? ⟨w.heap.size, 0, none⟩ = some (.int .i64 u) := (cell_of_row _ _ _ _ _ _ rw3).trans rfl
  have n1w3 : w3.cell? ⟨w.heap.size, 1, none⟩ = some (.int .i64 l) := (cell_of_row _ _ _ _ _ _ rw3).trans rfl
  have y3 : w.heap.size < w3.heap.size := Nat.lt_of_lt_of_le y2 hb3.size
  clear hb3 rw2 n0w2 n1w2 y2
  go_wp2
  all_goals go_ret2
  all_goals exact ⟨two_ret (by rw [Int.max_def]; split <;> simp_all <;> omega), hB3⟩
theorem refuntil_bad (u l : Int) (h : navE u l = 8) (w : World) : Calls Tryd.prog 11 #[.agg #[.int .i64 u, .int .i64 l]] w fun e w' => e = .returned (.tuple #[.int .i64 0, .int .i64 8]) ∧ Below w.heap.size w w' := by
  go_enter Tryd.func11, Tryd.ntmps11
  go_wp2_with fail
  refine (refcheck_any u l _).mono ?_
  rintro e w1 ⟨rfl, hb1⟩
  have hz1 := hb1.size
  simp only [World.size_alloc] at hz1
  have hB1 : Below w.heap.size w w1 := ((Below.refl _ _).alloc (Nat.le_refl _) _).trans (hb1.mono (by simp))
  have rn := fr_rows1 w (.cells #[.int .i64 u, .int .i64 l] 23)
  have rw1 := (hb1.block _ (by simp only [World.size_alloc]; omega)).trans rn
  have n0w1 : w1.cell? ⟨w.heap.size, 0, none⟩ = some (.int .i64 u) := (cell_of_row _ _ _ _ _ _ rw1).trans rfl
  have n1w1 : w1.cell? ⟨w.heap.size, 1, none⟩ = some (.int .i64 l) := (cell_of_row _ _ _ _ _ _ rw1).trans rfl
  have y1 : w.heap.size < w1.heap.size := by omega
  clear hb1 rn hz1
  simp only [h]
  go_wp2
  go_ret2
  exact ⟨rfl, hB1⟩
theorem refuntil_ok (u l : Int) (h : navE u l = 0) (w : World) : Calls Tryd.prog 11 #[.agg #[.int .i64 u, .int .i64 l]] w fun e w' => e = .returned (.tuple #[.int .i64 (navEnd u l), .int .i64 0]) ∧ Below w.heap.size w w' := by
  go_enter Tryd.func11, Tryd.ntmps11
  go_wp2_with fail
  refine (refcheck_any u l _).mono ?_
  rintro e w1 ⟨rfl, hb1⟩
  have hz1 := hb1.size
  simp only [World.size_alloc] at hz1
  have hB1 : Below w.heap.size w w1 := ((Below.refl _ _).alloc (Nat.le_refl _) _).trans (hb1.mono (by simp))
  have rn := fr_rows1 w (.cells #[.int .i64 u, .int .i64 l] 23)
  have rw1 := (hb1.block _ (by simp only [World.size_alloc]; omega)).trans rn
  have n0w1 : w1.cell? ⟨w.heap.size, 0, none⟩ = some (.int .i64 u) := (cell_of_row _ _ _ _ _ _ rw1).trans rfl
  have n1w1 : w1.cell? ⟨w.heap.size, 1, none⟩ = some (.int .i64 l) := (cell_of_row _ _ _ _ _ _ rw1).trans rfl
  have y1 : w.heap.size < w1.heap.size := by omega
  clear hb1 rn hz1
  simp only [h]
  go_wp2_with fail
  refine (refend_any u l _).mono ?_
  rintro e w2 ⟨rfl, hb2⟩
  have hB2 := hB1.trans (hb2.mono (Nat.le_of_lt y1))
  have rw2 := (hb2.block _ y1).trans rw1
  have n0w2 : w2.cell? ⟨w.heap.size, 0, none⟩ = some (.int .i64 u) := (cell_of_row _ _ _ _ _ _ rw2).trans rfl
  have n1w2 : w2.cell? ⟨w.heap.size, 1, none⟩ = some (.int .i64 l) := (cell_of_row _ _ _ _ _ _ rw2).trans rfl
  have y2 : w.heap.size < w2.heap.size := Nat.lt_of_lt_of_le y1 hb2.size
  clear hb2 rw1 n0w1 n1w1 y1
  go_wp2
  go_ret2
  exact ⟨rfl, hB2⟩
theorem refreserved_bad (u l n : Int) (h : navE u l = 8) (w : World) : Calls Tryd.prog 13 #[.agg #[.int .i64 u, .int .i64 l], .int .i64 n] w fun e w' => e = .returned (.tuple #[.bool false, .int .i64 8]) ∧ Below w.heap.size w w' := by
  go_enter Tryd.func13, Tryd.ntmps13
  go_wp2_with fail
  refine (refcheck_any u l _).mono ?_
  rintro e w1 ⟨rfl, hb1⟩
  have hz1 := hb1.size
  simp only [World.size_alloc] at hz1
  have hB1 : Below w.heap.size w w1 := ((Below.refl _ _).alloc (Nat.le_refl _) _).trans (hb1.mono (by simp))
  have rn := fr_rows1 w (.cells #[.int .i64 u, .int .i64 l] 23)
  have rw1 := (hb1.block _ (by simp only [World.size_alloc]; omega)).trans rn
  have n0w1 : w1.cell? ⟨w.heap.size, 0, none⟩ = some (.int .i64 u) := (cell_of_row _ _ _ _ _ _ rw1).trans rfl
  have n1w1 : w1.cell? ⟨w.heap.size, 1, none⟩ = some (.int .i64 l) := (cell_of_row _ _ _ _ _ _ rw1).trans rfl
  have y1 : w.heap.size < w1.heap.size := by omega
  clear hb1 rn hz1
  simp only [h]
  go_wp2
  go_ret2
  exact ⟨rfl, hB1⟩
theorem refreserved_arg (u l n : Int) (h : navE u l = 0) (t : timeB n = false) (w : World) : Calls Tryd.prog 13 #[.agg #[.int .i64 u, .int .i64 l], .int .i64 n] w fun e w' => e = .returned (.tuple #[.bool false, .int .i64 2]) ∧ Below w.heap.size w w' := by
  go_enter Tryd.func13, Tryd.ntmps13
  go_wp2_with fail
  refine (refcheck_any u l _).mono ?_
  rintro e w1 ⟨rfl, hb1⟩
  have hz1 := hb1.size
  simp only [World.size_alloc] at hz1
  have hB1 : Below w.heap.size w w1 := ((Below.refl _ _).alloc (Nat.le_refl _) _).trans (hb1.mono (by simp))
  have rn := fr_rows1 w (.cells #[.int .i64 u, .int .i64 l] 23)
  have rw1 := (hb1.block _ (by simp only [World.size_alloc]; omega)).trans rn
  have n0w1 : w1.cell? ⟨w.heap.size, 0, none⟩ = some (.int .i64 u) := (cell_of_row _ _ _ _ _ _ rw1).trans rfl
  have n1w1 : w1.cell? ⟨w.heap.size, 1, none⟩ = some (.int .i64 l) := (cell_of_row _ _ _ _ _ _ rw1).trans rfl
  have y1 : w.heap.size < w1.heap.size := by omega
  clear hb1 rn hz1
  simp only [h]
  go_wp2_with fail
  refine (refin_any n _).mono ?_
  rintro e w' ⟨rfl, rfl⟩
  simp only [t]
  go_wp2
  go_ret2
  exact ⟨rfl, hB1⟩
theorem refreserved_ok (u l n : Int) (h : navE u l = 0) (t : timeB n = true) (w : World) : Calls Tryd.prog 13 #[.agg #[.int .i64 u, .int .i64 l], .int .i64 n] w fun e w' => e = .returned (.tuple #[.bool (decide (n < navEnd u l)), .int .i64 0]) ∧ Below w.heap.size w w' := by
  go_enter Tryd.func13, Tryd.ntmps13
  go_wp2_with fail
  refine (refcheck_any u l _).mono ?_
  rintro e w1 ⟨rfl, hb1⟩
  have hz1 := hb1.size
  simp only [World.size_alloc] at hz1
  have hB1 : Below w.heap.size w w1 := ((Below.refl _ _).alloc (Nat.le_refl _) _).trans (hb1.mono (by simp))
  have rn := fr_rows1 w (.cells #[.int .i64 u, .int .i64 l] 23)
  have rw1 := (hb1.block _ (by simp only [World.size_alloc]; omega)).trans rn
  have n0w1 : w1.cell? ⟨w.heap.size, 0, none⟩ = some (.int .i64 u) := (cell_of_row _ _ _ _ _ _ rw1).trans rfl
  have n1w1 : w1.cell? ⟨w.heap.size, 1, none⟩ = some (.int .i64 l) := (cell_of_row _ _ _ _ _ _ rw1).trans rfl
  have y1 : w.heap.size < w1.heap.size := by omega
  clear hb1 rn hz1
  simp only [h]
  go_wp2_with fail
  refine (refin_any n _).mono ?_
  rintro e w' ⟨rfl, rfl⟩
  simp only [t]
  go_wp2_with fail
  refine (refend_any u l _).mono ?_
  rintro e w2 ⟨rfl, hb2⟩
  have hB2 := hB1.trans (hb2.mono (Nat.le_of_lt y1))
  have rw2 := (hb2.block _ y1).trans rw1
  have n0w2 : w2.cell? ⟨w.heap.size, 0, none⟩ = some (.int .i64 u) := (cell_of_row _ _ _ _ _ _ rw2).trans rfl
  have n1w2 : w2.cell? ⟨w.heap.size, 1, none⟩ = some (.int .i64 l) := (cell_of_row _ _ _ _ _ _ rw2).trans rfl
  have y2 : w.heap.size < w2.heap.size := Nat.lt_of_lt_of_le y1 hb2.size
  clear hb2 rw1 n0w1 n1w1 y1
  go_wp2
  go_ret2
  exact ⟨rfl, hB2⟩
theorem refearliest_bad (u l i c : Int) (hc : 0 ≤ c ∧ c ≤ 255) (h : navE u l = 8) (w : World) : Calls Tryd.prog 15 #[.agg #[.int .i64 u, .int .i64 l], .int .i64 i, .int .u8 c] w fun e w' => e = .returned (.tuple #[.int .i64 0, .int .i64 8]) ∧ Below w.heap.size w w' := by
  go_enter Tryd.func15, Tryd.ntmps15
  go_wp2_with fail
  refine (refcheck_any u l _).mono ?_
  rintro e w1 ⟨rfl, hb1⟩
  have hz1 := hb1.size
  simp only [World.size_alloc] at hz1
  have hB1 : Below w.heap.size w w1 := ((Below.refl _ _).alloc (Nat.le_refl _) _).trans (hb1.mono (by simp))
  have rn := fr_rows1 w (.cells #[.int .i64 u, .int .i64 l] 23)
  have rw1 := (hb1.block _ (by simp only [World.size_alloc]; omega)).trans rn
  have n0w1 : w1.cell? ⟨w.heap.size, 0, none⟩ = some (.int .i64 u) := (cell_of_row _ _ _ _ _ _ rw1).trans rfl
  have n1w1 : w1.cell? ⟨w.heap.size, 1, none⟩ = some (.int .i64 l) := (cell_of_row _ _ _ _ _ _ rw1).trans rfl
  have y1 : w.heap.size < w1.heap.size := by omega
  clear hb1 rn hz1
  simp only [h]
  go_wp2
  go_ret2
  exact ⟨rfl, hB1⟩
theorem refearliest_cat (u l i c : Int) (hc : 0 ≤ c ∧ c ≤ 255) (h : navE u l = 0) (s : spaceE c = 2) (w : World) : Calls Tryd.prog 15 #[.agg #[.int .i64 u, .int .i64 l], .int .i64 i, .int .u8 c] w fun e w' => e = .returned (.tuple #[.int .i64 0, .int .i64 2]) ∧ Below w.heap.size w w' := by
  go_enter Tryd.func15, Tryd.ntmps15
  go_wp2_with fail
  refine (refcheck_any u l _).mono ?_
  rintro e w1 ⟨rfl, hb1⟩
  have hz1 := hb1.size
  simp only [World.size_alloc] at hz1
  have hB1 : Below w.heap.size w w1 := ((Below.refl _ _).alloc (Nat.le_refl _) _).trans (hb1.mono (by simp))
  have rn := fr_rows1 w (.cells #[.int .i64 u, .int .i64 l] 23)
  have rw1 := (hb1.block _ (by simp only [World.size_alloc]; omega)).trans rn
  have n0w1 : w1.cell? ⟨w.heap.size, 0, none⟩ = some (.int .i64 u) := (cell_of_row _ _ _ _ _ _ rw1).trans rfl
  have n1w1 : w1.cell? ⟨w.heap.size, 1, none⟩ = some (.int .i64 l) := (cell_of_row _ _ _ _ _ _ rw1).trans rfl
  have y1 : w.heap.size < w1.heap.size := by omega
  clear hb1 rn hz1
  simp only [h]
  go_wp2_with fail
  refine (refspace_any c hc _).mono ?_
  rintro e w2 ⟨rfl, hb2⟩
  have hB2 := hB1.trans (hb2.mono (Nat.le_of_lt y1))
  have rw2 := (hb2.block _ y1).trans rw1
  have n0w2 : w2.cell? ⟨w.heap.size, 0, none⟩ = some (.int .i64 u) := (cell_of_row _ _ _ _ _ _ rw2).trans rfl
  have n1w2 : w2.cell? ⟨w.heap.size, 1, none⟩ = some (.int .i64 l) := (cell_of_row _ _ _ _ _ _ rw2).trans rfl
  have y2 : w.heap.size < w2.heap.size := Nat.lt_of_lt_of_le y1 hb2.size
  clear hb2 rw1 n0w1 n1w1 y1
  simp only [s]
  go_wp2
  go_ret2
  exact ⟨rfl, hB2⟩
theorem refearliest_arg (u l i c : Int) (hc : 0 ≤ c ∧ c ≤ 255) (h : navE u l = 0) (s : spaceE c = 0) (t : timeB i = false) (w : World) : Calls Tryd.prog 15 #[.agg #[.int .i64 u, .int .i64 l], .int .i64 i, .int .u8 c] w fun e w' => e = .returned (.tuple #[.int .i64 0, .int .i64 2]) ∧ Below w.heap.size w w' := by
  go_enter Tryd.func15, Tryd.ntmps15
  go_wp2_with fail
  refine (refcheck_any u l _).mono ?_
  rintro e w1 ⟨rfl, hb1⟩
  have hz1 := hb1.size
  simp only [World.size_alloc] at hz1
  have hB1 : Below w.heap.size w w1 := ((Below.refl _ _).alloc (Nat.le_refl _) _).trans (hb1.mono (by simp))
  have rn := fr_rows1 w (.cells #[.int .i64 u, .int .i64 l] 23)
  have rw1 := (hb1.block _ (by simp only [World.size_alloc]; omega)).trans rn
  have n0w1 : w1.cell? ⟨w.heap.size, 0, none⟩ = some (.int .i64 u) := (cell_of_row _ _ _ _ _ _ rw1).trans rfl
  have n1w1 : w1.cell? ⟨w.heap.size, 1, none⟩ = some (.int .i64 l) := (cell_of_row _ _ _ _ _ _ rw1).trans rfl
  have y1 : w.heap.size < w1.heap.size := by omega
  clear hb1 rn hz1
  simp only [h]
  go_wp2_with fail
  refine (refspace_any c hc _).mono ?_
  rintro e w2 ⟨rfl, hb2⟩
  have hB2 := hB1.trans (hb2.mono (Nat.le_of_lt y1))
  have rw2 := (hb2.block _ y1).trans rw1
  have n0w2 : w2.cell? ⟨w.heap.size, 0, none⟩ = some (.int .i64 u) := (cell_of_row _ _ _ _ _ _ rw2).trans rfl
  have n1w2 : w2.cell? ⟨w.heap.size, 1, none⟩ = some (.int .i64 l) := (cell_of_row _ _ _ _ _ _ rw2).trans rfl
  have y2 : w.heap.size < w2.heap.size := Nat.lt_of_lt_of_le y1 hb2.size
  clear hb2 rw1 n0w1 n1w1 y1
  simp only [s]
  go_wp2_with fail
  refine (refin_any i _).mono ?_
  rintro e w' ⟨rfl, rfl⟩
  simp only [t]
  go_wp2
  go_ret2
  exact ⟨rfl, hB2⟩
theorem refearliest_ok (u l i c : Int) (hc : 0 ≤ c ∧ c ≤ 255) (h : navE u l = 0) (s : spaceE c = 0) (t : timeB i = true) (w : World) : Calls Tryd.prog 15 #[.agg #[.int .i64 u, .int .i64 l], .int .i64 i, .int .u8 c] w fun e w' => e = .returned (.tuple #[.int .i64 (max i (navEnd u l) + spaceN c), .int .i64 0]) ∧ Below w.heap.size w w' := by
  obtain ⟨g0, g1⟩ := early_bounds u l i c h s t
  by_cases q : i < navEnd u l
  · rw [Int.max_eq_right (by omega)] at *
    have d1 : decide (i < navEnd u l) = true := by simp; omega
    clear q
    go_enter Tryd.func15, Tryd.ntmps15
    go_wp2_with fail
    refine (refcheck_any u l _).mono ?_
    rintro e w1 ⟨rfl, hb1⟩
    have hz1 := hb1.size
    simp only [World.size_alloc] at hz1
    have hB1 : Below w.heap.size w w1 := ((Below.refl _ _).alloc (Nat.le_refl _) _).trans (hb1.mono (by simp))
    have rn := fr_rows1 w (.cells #[.int .i64 u, .int .i64 l] 23)
    have rw1 := (hb1.block _ (by simp only [World.size_alloc]; omega)).trans rn
    have n0w1 : w1.cell? ⟨w.heap.size, 0, none⟩ = some (.int .i64 u) := (cell_of_row _ _ _ _ _ _ rw1).trans rfl
    have n1w1 : w1.cell? ⟨w.heap.size, 1, none⟩ = some (.int .i64 l) := (cell_of_row _ _ _ _ _ _ rw1).trans rfl
    have y1 : w.heap.size < w1.heap.size := by omega
    clear hb1 rn hz1
    simp only [h]
    go_wp2_with fail
    refine (refspace_any c hc _).mono ?_
    rintro e w2 ⟨rfl, hb2⟩
    have hB2 := hB1.trans (hb2.mono (Nat.le_of_lt y1))
    have rw2 := (hb2.block _ y1).trans rw1
    have n0w2 : w2.cell? ⟨w.heap.size, 0, none⟩ = some (.int .i64 u) := (cell_of_row _ _ _ _ _ _ rw2).trans rfl
    have n1w2 : w2.cell? ⟨w.heap.size, 1, none⟩ = some (.int .i64 l) := (cell_of_row _ _ _ _ _ _ rw2).trans rfl
    have y2 : w.heap.size < w2.heap.size := Nat.lt_of_lt_of_le y1 hb2.size
    clear hb2 rw1 n0w1 n1w1 y1
    simp only [s]
    go_wp2_with fail
    refine (refin_any i _).mono ?_
    rintro e w' ⟨rfl, rfl⟩
    simp only [t]
    go_wp2_with fail
    refine (refend_any u l _).mono ?_
    rintro e w3 ⟨rfl, hb3⟩
    have hB3 := hB2.trans (hb3.mono (Nat.le_of_lt y2))
    have rw3 := (hb3.block _ y2).trans rw2
    have n0w3 : w3.cell? ⟨w.heap.size, 0, none⟩ = some (.int .i64 u) := (cell_of_row _ _ _ _ _ _ rw3).trans rfl
    have n1w3 : w3.cell? ⟨w.heap.size, 1, none⟩ = some (.int .i64 l) := (cell_of_row _ _ _ _ _ _ rw3).trans rfl
    have y3 : w.heap.size < w3.heap.size := Nat.lt_of_lt_of_le y2 hb3.size
    clear hb3 rw2 n0w2 n1w2 y2
    go_wp2_with fail
    refine (refend_any u l _).mono ?_
    rintro e w4 ⟨rfl, hb4⟩
    have hB4 := hB3.trans (hb4.mono (Nat.le_of_lt y3))
    have rw4 := (hb4.block _ y3).trans rw3
    have n0w4 : w4.cell? ⟨w.heap.size, 0, none⟩ = some (.int .i64 u) := (cell_of_row _ _ _ _ _ _ rw4).trans rfl
    have n1w4 : w4.cell? ⟨w.heap.size, 1, none⟩ = some (.int .i64 l) := (cell_of_row _ _ _ _ _ _ rw4).trans rfl
    have y4 : w.heap.size < w4.heap.size := Nat.lt_of_lt_of_le y3 hb4.size
    clear hb4 rw3 n0w3 n1w3 y3
    go_wp2
    go_ret2
    exact ⟨rfl, hB4⟩
  · rw [Int.max_eq_left (by omega)] at *
    have d1 : decide (i < navEnd u l) = false := by simp; omega
    clear q
    go_enter Tryd.func15, Tryd.ntmps15
    go_wp2_with fail
    refine (refcheck_any u l _).mono ?_
    rintro e w1 ⟨rfl, hb1⟩
    have hz1 := hb1.size
    simp only [World.size_alloc] at hz1
    have hB1 : Below w.heap.size w w1 := ((Below.refl _ _).alloc (Nat.le_refl _) _).trans (hb1.mono (by simp))
    have rn := fr_rows1 w (.cells #[.int .i64 u, .int .i64 l] 23)
    have rw1 := (hb1.block _ (by simp only [World.size_alloc]; omega)).trans rn
    have n0w1 : w1.cell? ⟨w.heap.size, 0, none⟩ = some (.int .i64 u) := (cell_of_row _ _ _ _ _ _ rw1).trans rfl
    have n1w1 : w1.cell? ⟨w.heap.size, 1, none⟩ = some (.int .i64 l) := (cell_of_row _ _ _ _ _ _ rw1).trans rfl
    have y1 : w.heap.size < w1.heap.size := by omega
    clear hb1 rn hz1
    simp only [h]
    go_wp2_with fail
    refine (refspace_any c hc _).mono ?_
    rintro e w2 ⟨rfl, hb2⟩
    have hB2 := hB1.trans (hb2.mono (Nat.le_of_lt y1))
    have rw2 := (hb2.block _ y1).trans rw1
    have n0w2 : w2.cell? ⟨w.heap.size, 0, none⟩ = some (.int .i64 u) := (cell_of_row _ _ _ _ _ _ rw2).trans rfl
    have n1w2 : w2.cell? ⟨w.heap.size, 1, none⟩ = some (.int .i64 l) := (cell_of_row _ _ _ _ _ _ rw2).trans rfl
    have y2 : w.heap.size < w2.heap.size := Nat.lt_of_lt_of_le y1 hb2.size
    clear hb2 rw1 n0w1 n1w1 y1
    simp only [s]
    go_wp2_with fail
    refine (refin_any i _).mono ?_
    rintro e w' ⟨rfl, rfl⟩
    simp only [t]
    go_wp2_with fail
    refine (refend_any u l _).mono ?_
    rintro e w3 ⟨rfl, hb3⟩
    have hB3 := hB2.trans (hb3.mono (Nat.le_of_lt y2))
    have rw3 := (hb3.block _ y2).trans rw2
    have n0w3 : w3.cell? ⟨w.heap.size, 0, none⟩ = some (.int .i64 u) := (cell_of_row _ _ _ _ _ _ rw3).trans rfl
    have n1w3 : w3.cell? ⟨w.heap.size, 1, none⟩ = some (.int .i64 l) := (cell_of_row _ _ _ _ _ _ rw3).trans rfl
    have y3 : w.heap.size < w3.heap.size := Nat.lt_of_lt_of_le y2 hb3.size
    clear hb3 rw2 n0w2 n1w2 y2
    go_wp2
    go_ret2
    exact ⟨rfl, hB3⟩
theorem until_all (u l : Int) (w : World) : Calls Tryd.prog 10 #[.agg #[.int .i64 u, .int .i64 l]] w fun e w' => e = .returned (.tuple #[.int .i64 (untN u l), .int .i64 (navE u l)]) ∧ Below w.heap.size w w' := by
  simp only [untN]
  rcases nav_two u l with h | h
  · rw [h]; exact until_ok u l h w
  · rw [h]; exact until_bad u l h w
theorem reserved_all (u l n : Int) (w : World) : Calls Tryd.prog 12 #[.agg #[.int .i64 u, .int .i64 l], .int .i64 n] w fun e w' => e = .returned (.tuple #[.bool (resB u l n), .int .i64 (resE u l n)]) ∧ Below w.heap.size w w' := by
  simp only [resB, resE]
  rcases nav_two u l with h | h
  · rw [h]
    by_cases t : timeB n = true
    · rw [t]; simpa using reserved_ok u l n h t w
    · simp only [Bool.not_eq_true] at t
      rw [t]; simpa using reserved_arg u l n h t w
  · rw [h]; simpa using reserved_bad u l n h w
theorem earliest_all (u l i c : Int) (hc : 0 ≤ c ∧ c ≤ 255) (w : World) (T : Tab w) : Calls Tryd.prog 14 #[.agg #[.int .i64 u, .int .i64 l], .int .i64 i, .int .u8 c] w fun e w' => e = .returned (.tuple #[.int .i64 (earN u l i c), .int .i64 (earE u l i c)]) ∧ Below w.heap.size w w' := by
  simp only [earN, earE]
  rcases nav_two u l with h | h
  · rw [h]
    rcases space_two c with s | s
    · by_cases t : timeB i = true
      · rw [s, t]; simpa using earliest_ok u l i c hc h s t w T
      · simp only [Bool.not_eq_true] at t
        rw [s, t]; simpa using earliest_arg u l i c hc h s t w T
    · rw [s]; simpa using earliest_cat u l i c hc h s w T
  · rw [h]; simpa using earliest_bad u l i c hc h w T
theorem slots_bad (u l i c n : Int) (hc : 0 ≤ c ∧ c ≤ 255) (h : earE u l i c ≠ 0) (w : World) (T : Tab w) : Calls Tryd.prog 16 #[.agg #[.int .i64 u, .int .i64 l], .int .i64 i, .int .u8 c, .int .i64 n] w fun e w' => e = .returned (.tuple #[.int .i64 0, .int .i64 (earE u l i c)]) ∧ Below w.heap.size w w' := by
  go_enter Tryd.func16, Tryd.ntmps16
  have d : (earE u l i c == 0) = false := by simpa using h
  clear h
  go_wp2_with fail
  refine (earliest_all u l i c hc _ T.alloc).mono ?_
  rintro e w1 ⟨rfl, hb1⟩
  have hz1 := hb1.size
  simp only [World.size_alloc] at hz1
  have hB1 : Below w.heap.size w w1 := ((Below.refl _ _).alloc (Nat.le_refl _) _).trans (hb1.mono (by simp))
  have rn := fr_rows1 w (.cells #[.int .i64 u, .int .i64 l] 23)
  have rw1 := (hb1.block _ (by simp only [World.size_alloc]; omega)).trans rn
  have n0w1 : w1.cell? ⟨w.heap.size, 0, none⟩ = some (.int .i64 u) := (cell_of_row _ _ _ _ _ _ rw1).trans rfl
  have n1w1 : w1.cell? ⟨w.heap.size, 1, none⟩ = some (.int .i64 l) := (cell_of_row _ _ _ _ _ _ rw1).trans rfl
  have y1 : w.heap.size < w1.heap.size := by omega
  clear hb1 rn hz1
  go_wp2
  go_ret2
  exact ⟨rfl, hB1⟩
theorem slots_arg (u l i c n : Int) (hc : 0 ≤ c ∧ c ≤ 255) (h : earE u l i c = 0) (t : timeB n = false) (w : World) (T : Tab w) : Calls Tryd.prog 16 #[.agg #[.int .i64 u, .int .i64 l], .int .i64 i, .int .u8 c, .int .i64 n] w fun e w' => e = .returned (.tuple #[.int .i64 0, .int .i64 2]) ∧ Below w.heap.size w w' := by
  go_enter Tryd.func16, Tryd.ntmps16
  go_wp2_with fail
  refine (earliest_all u l i c hc _ T.alloc).mono ?_
  rintro e w1 ⟨rfl, hb1⟩
  have hz1 := hb1.size
  simp only [World.size_alloc] at hz1
  have hB1 : Below w.heap.size w w1 := ((Below.refl _ _).alloc (Nat.le_refl _) _).trans (hb1.mono (by simp))
  have rn := fr_rows1 w (.cells #[.int .i64 u, .int .i64 l] 23)
  have rw1 := (hb1.block _ (by simp only [World.size_alloc]; omega)).trans rn
  have n0w1 : w1.cell? ⟨w.heap.size, 0, none⟩ = some (.int .i64 u) := (cell_of_row _ _ _ _ _ _ rw1).trans rfl
  have n1w1 : w1.cell? ⟨w.heap.size, 1, none⟩ = some (.int .i64 l) := (cell_of_row _ _ _ _ _ _ rw1).trans rfl
  have y1 : w.heap.size < w1.heap.size := by omega
  clear hb1 rn hz1
  simp only [h]
  go_wp2_with fail
  refine (time_any n _).mono ?_
  rintro e w' ⟨rfl, rfl⟩
  simp only [t]
  go_wp2
  go_ret2
  exact ⟨rfl, hB1⟩
theorem slots_ok (u l i c n : Int) (hc : 0 ≤ c ∧ c ≤ 255) (h : earE u l i c = 0) (t : timeB n = true) (w : World) (T : Tab w) : Calls Tryd.prog 16 #[.agg #[.int .i64 u, .int .i64 l], .int .i64 i, .int .u8 c, .int .i64 n] w fun e w' => e = .returned (.tuple #[.int .i64 (max (n - earN u l i c) 0 / 9), .int .i64 0]) ∧ Below w.heap.size w w' := by
  obtain ⟨g0, g1⟩ := earN_bounds u l i c
  have g2 : 0 ≤ n ∧ n ≤ 2199023255552 := by simpa [timeB] using t
  by_cases q : n < earN u l i c
  · have d1 : decide (n < earN u l i c) = true := by simp; omega
    have x : max (n - earN u l i c) 0 / 9 = 0 := by rw [Int.max_eq_right (by omega)]; rfl
    rw [x]
    clear x
    go_enter Tryd.func16, Tryd.ntmps16
    go_wp2_with fail
    refine (earliest_all u l i c hc _ T.alloc).mono ?_
    rintro e w1 ⟨rfl, hb1⟩
    have hz1 := hb1.size
    simp only [World.size_alloc] at hz1
    have hB1 : Below w.heap.size w w1 := ((Below.refl _ _).alloc (Nat.le_refl _) _).trans (hb1.mono (by simp))
    have rn := fr_rows1 w (.cells #[.int .i64 u, .int .i64 l] 23)
    have rw1 := (hb1.block _ (by simp only [World.size_alloc]; omega)).trans rn
    have n0w1 : w1.cell? ⟨w.heap.size, 0, none⟩ = some (.int .i64 u) := (cell_of_row _ _ _ _ _ _ rw1).trans rfl
    have n1w1 : w1.cell? ⟨w.heap.size, 1, none⟩ = some (.int .i64 l) := (cell_of_row _ _ _ _ _ _ rw1).trans rfl
    have y1 : w.heap.size < w1.heap.size := by omega
    clear hb1 rn hz1
    simp only [h]
    go_wp2_with fail
    refine (time_any n _).mono ?_
    rintro e w' ⟨rfl, rfl⟩
    simp only [t]
    go_wp2
    all_goals go_ret2
    all_goals exact ⟨rfl, hB1⟩
  · have d1 : decide (n < earN u l i c) = false := by simp; omega
    have x : max (n - earN u l i c) 0 / 9 = (n - earN u l i c) / 9 := by rw [Int.max_eq_left (by omega)]
    rw [x]
    clear x
    go_enter Tryd.func16, Tryd.ntmps16
    go_wp2_with fail
    refine (earliest_all u l i c hc _ T.alloc).mono ?_
    rintro e w1 ⟨rfl, hb1⟩
    have hz1 := hb1.size
    simp only [World.size_alloc] at hz1
    have hB1 : Below w.heap.size w w1 := ((Below.refl _ _).alloc (Nat.le_refl _) _).trans (hb1.mono (by simp))
    have rn := fr_rows1 w (.cells #[.int .i64 u, .int .i64 l] 23)
    have rw1 := (hb1.block _ (by simp only [World.size_alloc]; omega)).trans rn
    have n0w1 : w1.cell? ⟨w.heap.size, 0, none⟩ = some (.int .i64 u) := (cell_of_row _ _ _ _ _ _ rw1).trans rfl
    have n1w1 : w1.cell? ⟨w.heap.size, 1, none⟩ = some (.int .i64 l) := (cell_of_row _ _ _ _ _ _ rw1).trans rfl
    have y1 : w.heap.size < w1.heap.size := by omega
    clear hb1 rn hz1
    simp only [h]
    go_wp2_with fail
    refine (time_any n _).mono ?_
    rintro e w' ⟨rfl, rfl⟩
    simp only [t]
    go_wp2
    all_goals go_ret2
    all_goals exact ⟨rfl, hB1⟩
theorem slots_all (u l i c n : Int) (hc : 0 ≤ c ∧ c ≤ 255) (w : World) (T : Tab w) : Calls Tryd.prog 16 #[.agg #[.int .i64 u, .int .i64 l], .int .i64 i, .int .u8 c, .int .i64 n] w fun e w' => e = .returned (.tuple #[.int .i64 (slotN u l i c n), .int .i64 (slotE u l i c n)]) ∧ Below w.heap.size w w' := by
  simp only [slotN, slotE]
  by_cases h : earE u l i c = 0
  · by_cases t : timeB n = true
    · rw [h, t]; simpa using slots_ok u l i c n hc h t w T
    · simp only [Bool.not_eq_true] at t
      rw [h, t]; simpa using slots_arg u l i c n hc h t w T
  · have := slots_bad u l i c n hc h w T
    simpa [h] using this
theorem refuntil_all (u l : Int) (w : World) : Calls Tryd.prog 11 #[.agg #[.int .i64 u, .int .i64 l]] w fun e w' => e = .returned (.tuple #[.int .i64 (untN u l), .int .i64 (navE u l)]) ∧ Below w.heap.size w w' := by
  simp only [untN]
  rcases nav_two u l with h | h
  · rw [h]; exact refuntil_ok u l h w
  · rw [h]; exact refuntil_bad u l h w
theorem refreserved_all (u l n : Int) (w : World) : Calls Tryd.prog 13 #[.agg #[.int .i64 u, .int .i64 l], .int .i64 n] w fun e w' => e = .returned (.tuple #[.bool (resB u l n), .int .i64 (resE u l n)]) ∧ Below w.heap.size w w' := by
  simp only [resB, resE]
  rcases nav_two u l with h | h
  · rw [h]
    by_cases t : timeB n = true
    · rw [t]; simpa using refreserved_ok u l n h t w
    · simp only [Bool.not_eq_true] at t
      rw [t]; simpa using refreserved_arg u l n h t w
  · rw [h]; simpa using refreserved_bad u l n h w
theorem refearliest_all (u l i c : Int) (hc : 0 ≤ c ∧ c ≤ 255) (w : World) : Calls Tryd.prog 15 #[.agg #[.int .i64 u, .int .i64 l], .int .i64 i, .int .u8 c] w fun e w' => e = .returned (.tuple #[.int .i64 (earN u l i c), .int .i64 (earE u l i c)]) ∧ Below w.heap.size w w' := by
  simp only [earN, earE]
  rcases nav_two u l with h | h
  · rw [h]
    rcases space_two c with s | s
    · by_cases t : timeB i = true
      · rw [s, t]; simpa using refearliest_ok u l i c hc h s t w
      · simp only [Bool.not_eq_true] at t
        rw [s, t]; simpa using refearliest_arg u l i c hc h s t w
    · rw [s]; simpa using refearliest_cat u l i c hc h s w
  · rw [h]; simpa using refearliest_bad u l i c hc h w
theorem refslots_bad (u l i c n : Int) (hc : 0 ≤ c ∧ c ≤ 255) (h : earE u l i c ≠ 0) (w : World) : Calls Tryd.prog 17 #[.agg #[.int .i64 u, .int .i64 l], .int .i64 i, .int .u8 c, .int .i64 n] w fun e w' => e = .returned (.tuple #[.int .i64 0, .int .i64 (earE u l i c)]) ∧ Below w.heap.size w w' := by
  go_enter Tryd.func17, Tryd.ntmps17
  have d : (earE u l i c == 0) = false := by simpa using h
  clear h
  go_wp2_with fail
  refine (refearliest_all u l i c hc _).mono ?_
  rintro e w1 ⟨rfl, hb1⟩
  have hz1 := hb1.size
  simp only [World.size_alloc] at hz1
  have hB1 : Below w.heap.size w w1 := ((Below.refl _ _).alloc (Nat.le_refl _) _).trans (hb1.mono (by simp))
  have rn := fr_rows1 w (.cells #[.int .i64 u, .int .i64 l] 23)
  have rw1 := (hb1.block _ (by simp only [World.size_alloc]; omega)).trans rn
  have n0w1 : w1.cell? ⟨w.heap.size, 0, none⟩ = some (.int .i64 u) := (cell_of_row _ _ _ _ _ _ rw1).trans rfl
  have n1w1 : w1.cell? ⟨w.heap.size, 1, none⟩ = some (.int .i64 l) := (cell_of_row _ _ _ _ _ _ rw1).trans rfl
  have y1 : w.heap.size < w1.heap.size := by omega
  clear hb1 rn hz1
  go_wp2
  go_ret2
  exact ⟨rfl, hB1⟩
theorem refslots_arg (u l i c n : Int) (hc : 0 ≤ c ∧ c ≤ 255) (h : earE u l i c = 0) (t : timeB n = false) (w : World) : Calls Tryd.prog 17 #[.agg #[.int .i64 u, .int .i64 l], .int .i64 i, .int .u8 c, .int .i64 n] w fun e w' => e = .returned (.tuple #[.int .i64 0, .int .i64 2]) ∧ Below w.heap.size w w' := by
  go_enter Tryd.func17, Tryd.ntmps17
  go_wp2_with fail
  refine (refearliest_all u l i c hc _).mono ?_
  rintro e w1 ⟨rfl, hb1⟩
  have hz1 := hb1.size
  simp only [World.size_alloc] at hz1
  have hB1 : Below w.heap.size w w1 := ((Below.refl _ _).alloc (Nat.le_refl _) _).trans (hb1.mono (by simp))
  have rn := fr_rows1 w (.cells #[.int .i64 u, .int .i64 l] 23)
  have rw1 := (hb1.block _ (by simp only [World.size_alloc]; omega)).trans rn
  have n0w1 : w1.cell? ⟨w.heap.size, 0, none⟩ = some (.int .i64 u) := (cell_of_row _ _ _ _ _ _ rw1).trans rfl
  have n1w1 : w1.cell? ⟨w.heap.size, 1, none⟩ = some (.int .i64 l) := (cell_of_row _ _ _ _ _ _ rw1).trans rfl
  have y1 : w.heap.size < w1.heap.size := by omega
  clear hb1 rn hz1
  simp only [h]
  go_wp2_with fail
  refine (refin_any n _).mono ?_
  rintro e w' ⟨rfl, rfl⟩
  simp only [t]
  go_wp2
  go_ret2
  exact ⟨rfl, hB1⟩
theorem refslots_ok (u l i c n : Int) (hc : 0 ≤ c ∧ c ≤ 255) (h : earE u l i c = 0) (t : timeB n = true) (w : World) : Calls Tryd.prog 17 #[.agg #[.int .i64 u, .int .i64 l], .int .i64 i, .int .u8 c, .int .i64 n] w fun e w' => e = .returned (.tuple #[.int .i64 (max (n - earN u l i c) 0 / 9), .int .i64 0]) ∧ Below w.heap.size w w' := by
  obtain ⟨g0, g1⟩ := earN_bounds u l i c
  have g2 : 0 ≤ n ∧ n ≤ 2199023255552 := by simpa [timeB] using t
  by_cases q : n < earN u l i c
  · have d1 : decide (n < earN u l i c) = true := by simp; omega
    have x : max (n - earN u l i c) 0 / 9 = 0 := by rw [Int.max_eq_right (by omega)]; rfl
    rw [x]
    clear x
    go_enter Tryd.func17, Tryd.ntmps17
    go_wp2_with fail
    refine (refearliest_all u l i c hc _).mono ?_
    rintro e w1 ⟨rfl, hb1⟩
    have hz1 := hb1.size
    simp only [World.size_alloc] at hz1
    have hB1 : Below w.heap.size w w1 := ((Below.refl _ _).alloc (Nat.le_refl _) _).trans (hb1.mono (by simp))
    have rn := fr_rows1 w (.cells #[.int .i64 u, .int .i64 l] 23)
    have rw1 := (hb1.block _ (by simp only [World.size_alloc]; omega)).trans rn
    have n0w1 : w1.cell? ⟨w.heap.size, 0, none⟩ = some (.int .i64 u) := (cell_of_row _ _ _ _ _ _ rw1).trans rfl
    have n1w1 : w1.cell? ⟨w.heap.size, 1, none⟩ = some (.int .i64 l) := (cell_of_row _ _ _ _ _ _ rw1).trans rfl
    have y1 : w.heap.size < w1.heap.size := by omega
    clear hb1 rn hz1
    simp only [h]
    go_wp2_with fail
    refine (refin_any n _).mono ?_
    rintro e w' ⟨rfl, rfl⟩
    simp only [t]
    go_wp2
    all_goals go_ret2
    all_goals exact ⟨rfl, hB1⟩
  · have d1 : decide (n < earN u l i c) = false := by simp; omega
    have x : max (n - earN u l i c) 0 / 9 = (n - earN u l i c) / 9 := by rw [Int.max_eq_left (by omega)]
    rw [x]
    clear x
    go_enter Tryd.func17, Tryd.ntmps17
    go_wp2_with fail
    refine (refearliest_all u l i c hc _).mono ?_
    rintro e w1 ⟨rfl, hb1⟩
    have hz1 := hb1.size
    simp only [World.size_alloc] at hz1
    have hB1 : Below w.heap.size w w1 := ((Below.refl _ _).alloc (Nat.le_refl _) _).trans (hb1.mono (by simp))
    have rn := fr_rows1 w (.cells #[.int .i64 u, .int .i64 l] 23)
    have rw1 := (hb1.block _ (by simp only [World.size_alloc]; omega)).trans rn
    have n0w1 : w1.cell? ⟨w.heap.size, 0, none⟩ = some (.int .i64 u) := (cell_of_row _ _ _ _ _ _ rw1).trans rfl
    have n1w1 : w1.cell? ⟨w.heap.size, 1, none⟩ = some (.int .i64 l) := (cell_of_row _ _ _ _ _ _ rw1).trans rfl
    have y1 : w.heap.size < w1.heap.size := by omega
    clear hb1 rn hz1
    simp only [h]
    go_wp2_with fail
    refine (refin_any n _).mono ?_
    rintro e w' ⟨rfl, rfl⟩
    simp only [t]
    go_wp2
    all_goals go_ret2
    all_goals exact ⟨rfl, hB1⟩
theorem refslots_all (u l i c n : Int) (hc : 0 ≤ c ∧ c ≤ 255) (w : World) : Calls Tryd.prog 17 #[.agg #[.int .i64 u, .int .i64 l], .int .i64 i, .int .u8 c, .int .i64 n] w fun e w' => e = .returned (.tuple #[.int .i64 (slotN u l i c n), .int .i64 (slotE u l i c n)]) ∧ Below w.heap.size w w' := by
  simp only [slotN, slotE]
  by_cases h : earE u l i c = 0
  · by_cases t : timeB n = true
    · rw [h, t]; simpa using refslots_ok u l i c n hc h t w
    · simp only [Bool.not_eq_true] at t
      rw [h, t]; simpa using refslots_arg u l i c n hc h t w
  · have := refslots_bad u l i c n hc h w
    simpa [h] using this
end Go.Proofs.YtdmaekiejdahoaaDoor
