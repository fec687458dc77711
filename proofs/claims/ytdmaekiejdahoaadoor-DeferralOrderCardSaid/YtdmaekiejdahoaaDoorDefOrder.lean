/-
  The walk of DeferralOrder: a category of higher priority never waits longer; slots count up by one every 9 microseconds.
-/
import Derived.Test.YtdmaekiejdahoaaDoorDoorAlive
import Derived.Test.YtdmaekiejdahoaaDoorDefEar
namespace Go.Proofs.YtdmaekiejdahoaaDoor.deferralOrder
open Go.ChangeShapes Go.WideShapes Go.ChangeAt Go.RowKit

set_option maxHeartbeats 8000000 in
set_option maxRecDepth 100000 in
theorem order_c_bad2 (u l i c d n : Int) (hi : -9223372036854775808 ≤ i ∧ i ≤ 9223372036854775807) (hc : 0 ≤ c ∧ c ≤ 255) (hd : 0 ≤ d ∧ d ≤ 255) (hn : -9223372036854775808 ≤ n ∧ n ≤ 9223372036854775807) (h1 : earE u l i c = 2) 
    (w : World) (T : Tab w) (O : Oth w) :
    Calls Tryd.prog 6 #[.agg #[.int .i64 u, .int .i64 l], .int .i64 i, .int .u8 c, .int .u8 d, .int .i64 n] w fun e w' => e = .returned (.bool true) ∧ Below w.heap.size w w' := by
  obtain ⟨e2, he2⟩ : ∃ x, earE u l i d = x := ⟨_, rfl⟩
  obtain ⟨n2, hn2⟩ : ∃ x, earN u l i d = x := ⟨_, rfl⟩
  have hor : e2 = 0 ∨ n2 = 0 := by
    by_cases q : earE u l i d = 0
    · exact .inl (he2 ▸ q)
    · exact .inr (hn2 ▸ earN_zero u l i d q)
  have hsE : ∃ x, slotE u l i c n = x := ⟨_, rfl⟩
  obtain ⟨sE, hsE⟩ := hsE
  obtain ⟨sN, hsN⟩ : ∃ x, slotN u l i c n = x := ⟨_, rfl⟩
  have HE1 := Lib.hid (show earE u l i c = 2 from h1)
  have HN1 := Lib.hid (show earN u l i c = 0 from earN_zero u l i c (by rw [h1]; decide))
  have HE2 := Lib.hid (show earE u l i d = e2 from he2)
  have HN2 := Lib.hid (show earN u l i d = n2 from hn2)
  have HS := Lib.hid (show slotE u l i c n = sE from hsE)
  have HX := Lib.hid (show slotN u l i c n = sN from hsN)
  clear h1 he2 hn2 hsE hsN
  rcases hor with rfl | rfl
  all_goals
    go_enter Tryd.func6, Tryd.ntmps6
    go_wp2_with fail
    refine (alive_any _ T.alloc O.alloc).mono ?_
    rintro e w1 ⟨rfl, hb1⟩
    have hz1 := hb1.size
    simp only [World.size_alloc] at hz1
    have hB1 : Below w.heap.size w w1 := ((Below.refl _ _).alloc (Nat.le_refl _) _).trans (hb1.mono (by simp))
    have rn := fr_rows1 w (.cells #[.int .i64 u, .int .i64 l] 23)
    have rw1 := (hb1.block _ (by simp only [World.size_alloc]; omega)).trans rn
    have n0w1 : w1.cell? ⟨w.heap.size, 0, none⟩ = some (.int .i64 u) := (cell_of_row _ _ _ _ _ _ rw1).trans rfl
    have n1w1 : w1.cell? ⟨w.heap.size, 1, none⟩ = some (.int .i64 l) := (cell_of_row _ _ _ _ _ _ rw1).trans rfl
    have y1 : w.heap.size < w1.heap.size := by omega
    clear hb1 rn hz1
    go_wp2_with fail
    refine (earliest_all u l i c hc _ (T.below hB1)).mono ?_
    rintro e w2 ⟨rfl, hb2⟩
    have hB2 := hB1.trans (hb2.mono (Nat.le_of_lt y1))
    have rw2 := (hb2.block _ y1).trans rw1
    have n0w2 : w2.cell? ⟨w.heap.size, 0, none⟩ = some (.int .i64 u) := (cell_of_row _ _ _ _ _ _ rw2).trans rfl
    have n1w2 : w2.cell? ⟨w.heap.size, 1, none⟩ = some (.int .i64 l) := (cell_of_row _ _ _ _ _ _ rw2).trans rfl
    have y2 : w.heap.size < w2.heap.size := Nat.lt_of_lt_of_le y1 hb2.size
    clear hb2 rw1 n0w1 n1w1 y1
    simp only [HE1.out, HN1.out]
    go_wp2_with fail
    refine (earliest_all u l i d hd _ (T.below hB2)).mono ?_
    rintro e w3 ⟨rfl, hb3⟩
    have hB3 := hB2.trans (hb3.mono (Nat.le_of_lt y2))
    have rw3 := (hb3.block _ y2).trans rw2
    have n0w3 : w3.cell? ⟨w.heap.size, 0, none⟩ = some (.int .i64 u) := (cell_of_row _ _ _ _ _ _ rw3).trans rfl
    have n1w3 : w3.cell? ⟨w.heap.size, 1, none⟩ = some (.int .i64 l) := (cell_of_row _ _ _ _ _ _ rw3).trans rfl
    have y3 : w.heap.size < w3.heap.size := Nat.lt_of_lt_of_le y2 hb3.size
    clear hb3 rw2 n0w2 n1w2 y2
    simp only [HE2.out, HN2.out]
    go_wp2_with fail
    refine (slots_all u l i c n hc _ (T.below hB3)).mono ?_
    rintro e w4 ⟨rfl, hb4⟩
    have hB4 := hB3.trans (hb4.mono (Nat.le_of_lt y3))
    have rw4 := (hb4.block _ y3).trans rw3
    have n0w4 : w4.cell? ⟨w.heap.size, 0, none⟩ = some (.int .i64 u) := (cell_of_row _ _ _ _ _ _ rw4).trans rfl
    have n1w4 : w4.cell? ⟨w.heap.size, 1, none⟩ = some (.int .i64 l) := (cell_of_row _ _ _ _ _ _ rw4).trans rfl
    have y4 : w.heap.size < w4.heap.size := Nat.lt_of_lt_of_le y3 hb4.size
    clear hb4 rw3 n0w3 n1w3 y3
    simp only [HS.out, HX.out]
    go_wp2
    all_goals go_ret
    all_goals exact ⟨rfl, hB4⟩
set_option maxHeartbeats 8000000 in
set_option maxRecDepth 100000 in
theorem order_c_bad8 (u l i c d n : Int) (hi : -9223372036854775808 ≤ i ∧ i ≤ 9223372036854775807) (hc : 0 ≤ c ∧ c ≤ 255) (hd : 0 ≤ d ∧ d ≤ 255) (hn : -9223372036854775808 ≤ n ∧ n ≤ 9223372036854775807) (h1 : earE u l i c = 8) 
    (w : World) (T : Tab w) (O : Oth w) :
    Calls Tryd.prog 6 #[.agg #[.int .i64 u, .int .i64 l], .int .i64 i, .int .u8 c, .int .u8 d, .int .i64 n] w fun e w' => e = .returned (.bool true) ∧ Below w.heap.size w w' := by
  obtain ⟨e2, he2⟩ : ∃ x, earE u l i d = x := ⟨_, rfl⟩
  obtain ⟨n2, hn2⟩ : ∃ x, earN u l i d = x := ⟨_, rfl⟩
  have hor : e2 = 0 ∨ n2 = 0 := by
    by_cases q : earE u l i d = 0
    · exact .inl (he2 ▸ q)
    · exact .inr (hn2 ▸ earN_zero u l i d q)
  have hsE : ∃ x, slotE u l i c n = x := ⟨_, rfl⟩
  obtain ⟨sE, hsE⟩ := hsE
  obtain ⟨sN, hsN⟩ : ∃ x, slotN u l i c n = x := ⟨_, rfl⟩
  have HE1 := Lib.hid (show earE u l i c = 8 from h1)
  have HN1 := Lib.hid (show earN u l i c = 0 from earN_zero u l i c (by rw [h1]; decide))
  have HE2 := Lib.hid (show earE u l i d = e2 from he2)
  have HN2 := Lib.hid (show earN u l i d = n2 from hn2)
  have HS := Lib.hid (show slotE u l i c n = sE from hsE)
  have HX := Lib.hid (show slotN u l i c n = sN from hsN)
  clear h1 he2 hn2 hsE hsN
  rcases hor with rfl | rfl
  all_goals
    go_enter Tryd.func6, Tryd.ntmps6
    go_wp2_with fail
    refine (alive_any _ T.alloc O.alloc).mono ?_
    rintro e w1 ⟨rfl, hb1⟩
    have hz1 := hb1.size
    simp only [World.size_alloc] at hz1
    have hB1 : Below w.heap.size w w1 := ((Below.refl _ _).alloc (Nat.le_refl _) _).trans (hb1.mono (by simp))
    have rn := fr_rows1 w (.cells #[.int .i64 u, .int .i64 l] 23)
    have rw1 := (hb1.block _ (by simp only [World.size_alloc]; omega)).trans rn
    have n0w1 : w1.cell? ⟨w.heap.size, 0, none⟩ = some (.int .i64 u) := (cell_of_row _ _ _ _ _ _ rw1).trans rfl
    have n1w1 : w1.cell? ⟨w.heap.size, 1, none⟩ = some (.int .i64 l) := (cell_of_row _ _ _ _ _ _ rw1).trans rfl
    have y1 : w.heap.size < w1.heap.size := by omega
    clear hb1 rn hz1
    go_wp2_with fail
    refine (earliest_all u l i c hc _ (T.below hB1)).mono ?_
    rintro e w2 ⟨rfl, hb2⟩
    have hB2 := hB1.trans (hb2.mono (Nat.le_of_lt y1))
    have rw2 := (hb2.block _ y1).trans rw1
    have n0w2 : w2.cell? ⟨w.heap.size, 0, none⟩ = some (.int .i64 u) := (cell_of_row _ _ _ _ _ _ rw2).trans rfl
    have n1w2 : w2.cell? ⟨w.heap.size, 1, none⟩ = some (.int .i64 l) := (cell_of_row _ _ _ _ _ _ rw2).trans rfl
    have y2 : w.heap.size < w2.heap.size := Nat.lt_of_lt_of_le y1 hb2.size
    clear hb2 rw1 n0w1 n1w1 y1
    simp only [HE1.out, HN1.out]
    go_wp2_with fail
    refine (earliest_all u l i d hd _ (T.below hB2)).mono ?_
    rintro e w3 ⟨rfl, hb3⟩
    have hB3 := hB2.trans (hb3.mono (Nat.le_of_lt y2))
    have rw3 := (hb3.block _ y2).trans rw2
    have n0w3 : w3.cell? ⟨w.heap.size, 0, none⟩ = some (.int .i64 u) := (cell_of_row _ _ _ _ _ _ rw3).trans rfl
    have n1w3 : w3.cell? ⟨w.heap.size, 1, none⟩ = some (.int .i64 l) := (cell_of_row _ _ _ _ _ _ rw3).trans rfl
    have y3 : w.heap.size < w3.heap.size := Nat.lt_of_lt_of_le y2 hb3.size
    clear hb3 rw2 n0w2 n1w2 y2
    simp only [HE2.out, HN2.out]
    go_wp2_with fail
    refine (slots_all u l i c n hc _ (T.below hB3)).mono ?_
    rintro e w4 ⟨rfl, hb4⟩
    have hB4 := hB3.trans (hb4.mono (Nat.le_of_lt y3))
    have rw4 := (hb4.block _ y3).trans rw3
    have n0w4 : w4.cell? ⟨w.heap.size, 0, none⟩ = some (.int .i64 u) := (cell_of_row _ _ _ _ _ _ rw4).trans rfl
    have n1w4 : w4.cell? ⟨w.heap.size, 1, none⟩ = some (.int .i64 l) := (cell_of_row _ _ _ _ _ _ rw4).trans rfl
    have y4 : w.heap.size < w4.heap.size := Nat.lt_of_lt_of_le y3 hb4.size
    clear hb4 rw3 n0w3 n1w3 y3
    simp only [HS.out, HX.out]
    go_wp2
    all_goals go_ret
    all_goals exact ⟨rfl, hB4⟩
set_option maxHeartbeats 8000000 in
set_option maxRecDepth 100000 in
theorem order_d_bad2 (u l i c d n : Int) (hi : -9223372036854775808 ≤ i ∧ i ≤ 9223372036854775807) (hc : 0 ≤ c ∧ c ≤ 255) (hd : 0 ≤ d ∧ d ≤ 255) (hn : -9223372036854775808 ≤ n ∧ n ≤ 9223372036854775807) (h1 : earE u l i c = 0) (h2 : earE u l i d = 2) 
    (w : World) (T : Tab w) (O : Oth w) :
    Calls Tryd.prog 6 #[.agg #[.int .i64 u, .int .i64 l], .int .i64 i, .int .u8 c, .int .u8 d, .int .i64 n] w fun e w' => e = .returned (.bool true) ∧ Below w.heap.size w w' := by
  obtain ⟨n1, hn1⟩ : ∃ x, earN u l i c = x := ⟨_, rfl⟩
  obtain ⟨sE, hsE⟩ : ∃ x, slotE u l i c n = x := ⟨_, rfl⟩
  obtain ⟨sN, hsN⟩ : ∃ x, slotN u l i c n = x := ⟨_, rfl⟩
  have HE1 := Lib.hid (show earE u l i c = 0 from h1)
  have HN1 := Lib.hid (show earN u l i c = n1 from hn1)
  have HE2 := Lib.hid (show earE u l i d = 2 from h2)
  have HN2 := Lib.hid (show earN u l i d = 0 from earN_zero u l i d (by rw [h2]; decide))
  have HS := Lib.hid (show slotE u l i c n = sE from hsE)
  have HX := Lib.hid (show slotN u l i c n = sN from hsN)
  clear h1 h2 hn1 hsE hsN
  go_enter Tryd.func6, Tryd.ntmps6
  go_wp2_with fail
  refine (alive_any _ T.alloc O.alloc).mono ?_
  rintro e w1 ⟨rfl, hb1⟩
  have hz1 := hb1.size
  simp only [World.size_alloc] at hz1
  have hB1 : Below w.heap.size w w1 := ((Below.refl _ _).alloc (Nat.le_refl _) _).trans (hb1.mono (by simp))
  have rn := fr_rows1 w (.cells #[.int .i64 u, .int .i64 l] 23)
  have rw1 := (hb1.block _ (by simp only [World.size_alloc]; omega)).trans rn
  have n0w1 : w1.cell? ⟨w.heap.size, 0, none⟩ = some (.int .i64 u) := (cell_of_row _ _ _ _ _ _ rw1).trans rfl
  have n1w1 : w1.cell? ⟨w.heap.size, 1, none⟩ = some (.int .i64 l) := (cell_of_row _ _ _ _ _ _ rw1).trans rfl
  have y1 : w.heap.size < w1.heap.size := by omega
  clear hb1 rn hz1
  go_wp2_with fail
  refine (earliest_all u l i c hc _ (T.below hB1)).mono ?_
  rintro e w2 ⟨rfl, hb2⟩
  have hB2 := hB1.trans (hb2.mono (Nat.le_of_lt y1))
  have rw2 := (hb2.block _ y1).trans rw1
  have n0w2 : w2.cell? ⟨w.heap.size, 0, none⟩ = some (.int .i64 u) := (cell_of_row _ _ _ _ _ _ rw2).trans rfl
  have n1w2 : w2.cell? ⟨w.heap.size, 1, none⟩ = some (.int .i64 l) := (cell_of_row _ _ _ _ _ _ rw2).trans rfl
  have y2 : w.heap.size < w2.heap.size := Nat.lt_of_lt_of_le y1 hb2.size
  clear hb2 rw1 n0w1 n1w1 y1
  simp only [HE1.out, HN1.out]
  go_wp2_with fail
  refine (earliest_all u l i d hd _ (T.below hB2)).mono ?_
  rintro e w3 ⟨rfl, hb3⟩
  have hB3 := hB2.trans (hb3.mono (Nat.le_of_lt y2))
  have rw3 := (hb3.block _ y2).trans rw2
  have n0w3 : w3.cell? ⟨w.heap.size, 0, none⟩ = some (.int .i64 u) := (cell_of_row _ _ _ _ _ _ rw3).trans rfl
  have n1w3 : w3.cell? ⟨w.heap.size, 1, none⟩ = some (.int .i64 l) := (cell_of_row _ _ _ _ _ _ rw3).trans rfl
  have y3 : w.heap.size < w3.heap.size := Nat.lt_of_lt_of_le y2 hb3.size
  clear hb3 rw2 n0w2 n1w2 y2
  simp only [HE2.out, HN2.out]
  go_wp2_with fail
  refine (slots_all u l i c n hc _ (T.below hB3)).mono ?_
  rintro e w4 ⟨rfl, hb4⟩
  have hB4 := hB3.trans (hb4.mono (Nat.le_of_lt y3))
  have rw4 := (hb4.block _ y3).trans rw3
  have n0w4 : w4.cell? ⟨w.heap.size, 0, none⟩ = some (.int .i64 u) := (cell_of_row _ _ _ _ _ _ rw4).trans rfl
  have n1w4 : w4.cell? ⟨w.heap.size, 1, none⟩ = some (.int .i64 l) := (cell_of_row _ _ _ _ _ _ rw4).trans rfl
  have y4 : w.heap.size < w4.heap.size := Nat.lt_of_lt_of_le y3 hb4.size
  clear hb4 rw3 n0w3 n1w3 y3
  simp only [HS.out, HX.out]
  go_wp2
  all_goals go_ret
  all_goals exact ⟨rfl, hB4⟩
set_option maxHeartbeats 8000000 in
set_option maxRecDepth 100000 in
theorem order_d_bad8 (u l i c d n : Int) (hi : -9223372036854775808 ≤ i ∧ i ≤ 9223372036854775807) (hc : 0 ≤ c ∧ c ≤ 255) (hd : 0 ≤ d ∧ d ≤ 255) (hn : -9223372036854775808 ≤ n ∧ n ≤ 9223372036854775807) (h1 : earE u l i c = 0) (h2 : earE u l i d = 8) 
    (w : World) (T : Tab w) (O : Oth w) :
    Calls Tryd.prog 6 #[.agg #[.int .i64 u, .int .i64 l], .int .i64 i, .int .u8 c, .int .u8 d, .int .i64 n] w fun e w' => e = .returned (.bool true) ∧ Below w.heap.size w w' := by
  obtain ⟨n1, hn1⟩ : ∃ x, earN u l i c = x := ⟨_, rfl⟩
  obtain ⟨sE, hsE⟩ : ∃ x, slotE u l i c n = x := ⟨_, rfl⟩
  obtain ⟨sN, hsN⟩ : ∃ x, slotN u l i c n = x := ⟨_, rfl⟩
  have HE1 := Lib.hid (show earE u l i c = 0 from h1)
  have HN1 := Lib.hid (show earN u l i c = n1 from hn1)
  have HE2 := Lib.hid (show earE u l i d = 8 from h2)
  have HN2 := Lib.hid (show earN u l i d = 0 from earN_zero u l i d (by rw [h2]; decide))
  have HS := Lib.hid (show slotE u l i c n = sE from hsE)
  have HX := Lib.hid (show slotN u l i c n = sN from hsN)
  clear h1 h2 hn1 hsE hsN
  go_enter Tryd.func6, Tryd.ntmps6
  go_wp2_with fail
  refine (alive_any _ T.alloc O.alloc).mono ?_
  rintro e w1 ⟨rfl, hb1⟩
  have hz1 := hb1.size
  simp only [World.size_alloc] at hz1
  have hB1 : Below w.heap.size w w1 := ((Below.refl _ _).alloc (Nat.le_refl _) _).trans (hb1.mono (by simp))
  have rn := fr_rows1 w (.cells #[.int .i64 u, .int .i64 l] 23)
  have rw1 := (hb1.block _ (by simp only [World.size_alloc]; omega)).trans rn
  have n0w1 : w1.cell? ⟨w.heap.size, 0, none⟩ = some (.int .i64 u) := (cell_of_row _ _ _ _ _ _ rw1).trans rfl
  have n1w1 : w1.cell? ⟨w.heap.size, 1, none⟩ = some (.int .i64 l) := (cell_of_row _ _ _ _ _ _ rw1).trans rfl
  have y1 : w.heap.size < w1.heap.size := by omega
  clear hb1 rn hz1
  go_wp2_with fail
  refine (earliest_all u l i c hc _ (T.below hB1)).mono ?_
  rintro e w2 ⟨rfl, hb2⟩
  have hB2 := hB1.trans (hb2.mono (Nat.le_of_lt y1))
  have rw2 := (hb2.block _ y1).trans rw1
  have n0w2 : w2.cell? ⟨w.heap.size, 0, none⟩ = some (.int .i64 u) := (cell_of_row _ _ _ _ _ _ rw2).trans rfl
  have n1w2 : w2.cell? ⟨w.heap.size, 1, none⟩ = some (.int .i64 l) := (cell_of_row _ _ _ _ _ _ rw2).trans rfl
  have y2 : w.heap.size < w2.heap.size := Nat.lt_of_lt_of_le y1 hb2.size
  clear hb2 rw1 n0w1 n1w1 y1
  simp only [HE1.out, HN1.out]
  go_wp2_with fail
  refine (earliest_all u l i d hd _ (T.below hB2)).mono ?_
  rintro e w3 ⟨rfl, hb3⟩
  have hB3 := hB2.trans (hb3.mono (Nat.le_of_lt y2))
  have rw3 := (hb3.block _ y2).trans rw2
  have n0w3 : w3.cell? ⟨w.heap.size, 0, none⟩ = some (.int .i64 u) := (cell_of_row _ _ _ _ _ _ rw3).trans rfl
  have n1w3 : w3.cell? ⟨w.heap.size, 1, none⟩ = some (.int .i64 l) := (cell_of_row _ _ _ _ _ _ rw3).trans rfl
  have y3 : w.heap.size < w3.heap.size := Nat.lt_of_lt_of_le y2 hb3.size
  clear hb3 rw2 n0w2 n1w2 y2
  simp only [HE2.out, HN2.out]
  go_wp2_with fail
  refine (slots_all u l i c n hc _ (T.below hB3)).mono ?_
  rintro e w4 ⟨rfl, hb4⟩
  have hB4 := hB3.trans (hb4.mono (Nat.le_of_lt y3))
  have rw4 := (hb4.block _ y3).trans rw3
  have n0w4 : w4.cell? ⟨w.heap.size, 0, none⟩ = some (.int .i64 u) := (cell_of_row _ _ _ _ _ _ rw4).trans rfl
  have n1w4 : w4.cell? ⟨w.heap.size, 1, none⟩ = some (.int .i64 l) := (cell_of_row _ _ _ _ _ _ rw4).trans rfl
  have y4 : w.heap.size < w4.heap.size := Nat.lt_of_lt_of_le y3 hb4.size
  clear hb4 rw3 n0w3 n1w3 y3
  simp only [HS.out, HX.out]
  go_wp2
  all_goals go_ret
  all_goals exact ⟨rfl, hB4⟩
set_option maxHeartbeats 8000000 in
set_option maxRecDepth 100000 in
theorem order_late (u l i c d n : Int) (hi : -9223372036854775808 ≤ i ∧ i ≤ 9223372036854775807) (hc : 0 ≤ c ∧ c ≤ 255) (hd : 0 ≤ d ∧ d ≤ 255) (hn : -9223372036854775808 ≤ n ∧ n ≤ 9223372036854775807) (h1 : earE u l i c = 0) (h2 : earE u l i d = 0) (h3 : timeB n = false) 
    (w : World) (T : Tab w) (O : Oth w) :
    Calls Tryd.prog 6 #[.agg #[.int .i64 u, .int .i64 l], .int .i64 i, .int .u8 c, .int .u8 d, .int .i64 n] w fun e w' => e = .returned (.bool true) ∧ Below w.heap.size w w' := by
  have m1 := ear_mono u l i c d hc.1 h1 h2
  have m2 := ear_mono u l i d c hd.1 h2 h1
  have ba := earN_bounds u l i c
  have bb := earN_bounds u l i d
  obtain ⟨a, ha⟩ : ∃ x, earN u l i c = x := ⟨_, rfl⟩
  obtain ⟨b, hb⟩ : ∃ x, earN u l i d = x := ⟨_, rfl⟩
  rw [ha] at m1 m2 ba
  rw [hb] at m1 m2 bb
  have sord : (c ≤ d ∧ b ≤ a ∧ d < c + 1 ∧ a ≤ b) ∨ (c ≤ d ∧ c < d ∧ b ≤ a) ∨ (d ≤ c ∧ d < c ∧ a ≤ b) := by omega
  have h4 : n < 0 ∨ 2199023255552 < n := by simp only [timeB, decide_eq_false_iff_not] at h3; omega
  have s1 : slotE u l i c n = 2 := by simp only [slotE, h1, h3]; rfl
  obtain ⟨sN, hsN⟩ : ∃ x, slotN u l i c n = x := ⟨_, rfl⟩
  have HE1 := Lib.hid (show earE u l i c = 0 from h1)
  have HN1 := Lib.hid (show earN u l i c = a from ha)
  have HE2 := Lib.hid (show earE u l i d = 0 from h2)
  have HN2 := Lib.hid (show earN u l i d = b from hb)
  have HS := Lib.hid (show slotE u l i c n = 2 from s1)
  have HX := Lib.hid (show slotN u l i c n = sN from hsN)
  clear h1 h2 m1 m2
  clear ha hb s1 hsN h3
  rcases sord with ⟨g1, g2, g3, g4⟩ | ⟨g1, g2, g3⟩ | ⟨g1, g2, g3⟩
  all_goals rcases h4 with h4 | h4
  all_goals
    go_enter Tryd.func6, Tryd.ntmps6
    go_wp2_with fail
    refine (alive_any _ T.alloc O.alloc).mono ?_
    rintro e w1 ⟨rfl, hb1⟩
    have hz1 := hb1.size
    simp only [World.size_alloc] at hz1
    have hB1 : Below w.heap.size w w1 := ((Below.refl _ _).alloc (Nat.le_refl _) _).trans (hb1.mono (by simp))
    have rn := fr_rows1 w (.cells #[.int .i64 u, .int .i64 l] 23)
    have rw1 := (hb1.block _ (by simp only [World.size_alloc]; omega)).trans rn
    have n0w1 : w1.cell? ⟨w.heap.size, 0, none⟩ = some (.int .i64 u) := (cell_of_row _ _ _ _ _ _ rw1).trans rfl
    have n1w1 : w1.cell? ⟨w.heap.size, 1, none⟩ = some (.int .i64 l) := (cell_of_row _ _ _ _ _ _ rw1).trans rfl
    have y1 : w.heap.size < w1.heap.size := by omega
    clear hb1 rn hz1
    go_wp2_with fail
    refine (earliest_all u l i c hc _ (T.below hB1)).mono ?_
    rintro e w2 ⟨rfl, hb2⟩
    have hB2 := hB1.trans (hb2.mono (Nat.le_of_lt y1))
    have rw2 := (hb2.block _ y1).trans rw1
    have n0w2 : w2.cell? ⟨w.heap.size, 0, none⟩ = some (.int .i64 u) := (cell_of_row _ _ _ _ _ _ rw2).trans rfl
    have n1w2 : w2.cell? ⟨w.heap.size, 1, none⟩ = some (.int .i64 l) := (cell_of_row _ _ _ _ _ _ rw2).trans rfl
    have y2 : w.heap.size < w2.heap.size := Nat.lt_of_lt_of_le y1 hb2.size
    clear hb2 rw1 n0w1 n1w1 y1
    simp only [HE1.out, HN1.out]
    go_wp2_with fail
    refine (earliest_all u l i d hd _ (T.below hB2)).mono ?_
    rintro e w3 ⟨rfl, hb3⟩
    have hB3 := hB2.trans (hb3.mono (Nat.le_of_lt y2))
    have rw3 := (hb3.block _ y2).trans rw2
    have n0w3 : w3.cell? ⟨w.heap.size, 0, none⟩ = some (.int .i64 u) := (cell_of_row _ _ _ _ _ _ rw3).trans rfl
    have n1w3 : w3.cell? ⟨w.heap.size, 1, none⟩ = some (.int .i64 l) := (cell_of_row _ _ _ _ _ _ rw3).trans rfl
    have y3 : w.heap.size < w3.heap.size := Nat.lt_of_lt_of_le y2 hb3.size
    clear hb3 rw2 n0w2 n1w2 y2
    simp only [HE2.out, HN2.out]
    go_wp2_with fail
    refine (slots_all u l i c n hc _ (T.below hB3)).mono ?_
    rintro e w4 ⟨rfl, hb4⟩
    have hB4 := hB3.trans (hb4.mono (Nat.le_of_lt y3))
    have rw4 := (hb4.block _ y3).trans rw3
    have n0w4 : w4.cell? ⟨w.heap.size, 0, none⟩ = some (.int .i64 u) := (cell_of_row _ _ _ _ _ _ rw4).trans rfl
    have n1w4 : w4.cell? ⟨w.heap.size, 1, none⟩ = some (.int .i64 l) := (cell_of_row _ _ _ _ _ _ rw4).trans rfl
    have y4 : w.heap.size < w4.heap.size := Nat.lt_of_lt_of_le y3 hb4.size
    clear hb4 rw3 n0w3 n1w3 y3
    simp only [HS.out, HX.out]
    go_wp2
    all_goals go_ret
    all_goals exact ⟨rfl, hB4⟩
theorem slots_step (a n : Int) : (n - a) / 9 + 1 = (n + 9 - a) / 9 := by omega
set_option maxHeartbeats 8000000 in
set_option maxRecDepth 100000 in
theorem order_edge (u l i c d n : Int) (hi : -9223372036854775808 ≤ i ∧ i ≤ 9223372036854775807) (hc : 0 ≤ c ∧ c ≤ 255) (hd : 0 ≤ d ∧ d ≤ 255) (hn : -9223372036854775808 ≤ n ∧ n ≤ 9223372036854775807) (h1 : earE u l i c = 0) (h2 : earE u l i d = 0) (h3 : timeB n = true) (h4 : 2199023255552 < n + 9) 
    (w : World) (T : Tab w) (O : Oth w) :
    Calls Tryd.prog 6 #[.agg #[.int .i64 u, .int .i64 l], .int .i64 i, .int .u8 c, .int .u8 d, .int .i64 n] w fun e w' => e = .returned (.bool true) ∧ Below w.heap.size w w' := by
  have m1 := ear_mono u l i c d hc.1 h1 h2
  have m2 := ear_mono u l i d c hd.1 h2 h1
  have ba := earN_bounds u l i c
  have bb := earN_bounds u l i d
  obtain ⟨a, ha⟩ : ∃ x, earN u l i c = x := ⟨_, rfl⟩
  obtain ⟨b, hb⟩ : ∃ x, earN u l i d = x := ⟨_, rfl⟩
  rw [ha] at m1 m2 ba
  rw [hb] at m1 m2 bb
  have sord : (c ≤ d ∧ b ≤ a ∧ d < c + 1 ∧ a ≤ b) ∨ (c ≤ d ∧ c < d ∧ b ≤ a) ∨ (d ≤ c ∧ d < c ∧ a ≤ b) := by omega
  have h5 : 0 ≤ n ∧ n ≤ 2199023255552 := by simpa only [timeB, decide_eq_true_eq] using h3
  have s1 : slotE u l i c n = 0 := by simp only [slotE, h1, h3]; rfl
  have hm : min (n + 9) 2199023255552 = 2199023255552 := by omega
  have s2 : slotE u l i c 2199023255552 = 0 := by simp only [slotE, h1]; rfl
  obtain ⟨x, hx⟩ : ∃ x, slotN u l i c n = x := ⟨_, rfl⟩
  obtain ⟨y, hy⟩ : ∃ x, slotN u l i c 2199023255552 = x := ⟨_, rfl⟩
  have hxy : x ≤ y := by
    rw [← hx, ← hy]
    have t2 : timeB 2199023255552 = true := by decide
    simp only [slotN, h1, h3, t2, if_true, ha]
    omega
  have hx9 : -1000000000000000 ≤ x ∧ x ≤ 1000000000000000 := by
    rw [← hx]; simp only [slotN, h1, h3, if_true, ha]; omega
  have HE1 := Lib.hid (show earE u l i c = 0 from h1)
  have HN1 := Lib.hid (show earN u l i c = a from ha)
  have HE2 := Lib.hid (show earE u l i d = 0 from h2)
  have HN2 := Lib.hid (show earN u l i d = b from hb)
  have HS := Lib.hid (show slotE u l i c n = 0 from s1)
  have HX := Lib.hid (show slotN u l i c n = x from hx)
  have HS2 := Lib.hid (show slotE u l i c (min (n + 9) 2199023255552) = 0 from (by rw [hm]; exact s2))
  have HY := Lib.hid (show slotN u l i c (min (n + 9) 2199023255552) = y from (by rw [hm]; exact hy))
  clear h1 h2 m1 m2
  clear ha hb s1 s2 hx hy h3 hm
  rcases sord with ⟨g1, g2, g3, g4⟩ | ⟨g1, g2, g3⟩ | ⟨g1, g2, g3⟩
  all_goals
    go_enter Tryd.func6, Tryd.ntmps6
    go_wp2_with fail
    refine (alive_any _ T.alloc O.alloc).mono ?_
    rintro e w1 ⟨rfl, hb1⟩
    have hz1 := hb1.size
    simp only [World.size_alloc] at hz1
    have hB1 : Below w.heap.size w w1 := ((Below.refl _ _).alloc (Nat.le_refl _) _).trans (hb1.mono (by simp))
    have rn := fr_rows1 w (.cells #[.int .i64 u, .int .i64 l] 23)
    have rw1 := (hb1.block _ (by simp only [World.size_alloc]; omega)).trans rn
    have n0w1 : w1.cell? ⟨w.heap.size, 0, none⟩ = some (.int .i64 u) := (cell_of_row _ _ _ _ _ _ rw1).trans rfl
    have n1w1 : w1.cell? ⟨w.heap.size, 1, none⟩ = some (.int .i64 l) := (cell_of_row _ _ _ _ _ _ rw1).trans rfl
    have y1 : w.heap.size < w1.heap.size := by omega
    clear hb1 rn hz1
    go_wp2_with fail
    refine (earliest_all u l i c hc _ (T.below hB1)).mono ?_
    rintro e w2 ⟨rfl, hb2⟩
    have hB2 := hB1.trans (hb2.mono (Nat.le_of_lt y1))
    have rw2 := (hb2.block _ y1).trans rw1
    have n0w2 : w2.cell? ⟨w.heap.size, 0, none⟩ = some (.int .i64 u) := (cell_of_row _ _ _ _ _ _ rw2).trans rfl
    have n1w2 : w2.cell? ⟨w.heap.size, 1, none⟩ = some (.int .i64 l) := (cell_of_row _ _ _ _ _ _ rw2).trans rfl
    have y2 : w.heap.size < w2.heap.size := Nat.lt_of_lt_of_le y1 hb2.size
    clear hb2 rw1 n0w1 n1w1 y1
    simp only [HE1.out, HN1.out]
    go_wp2_with fail
    refine (earliest_all u l i d hd _ (T.below hB2)).mono ?_
    rintro e w3 ⟨rfl, hb3⟩
    have hB3 := hB2.trans (hb3.mono (Nat.le_of_lt y2))
    have rw3 := (hb3.block _ y2).trans rw2
    have n0w3 : w3.cell? ⟨w.heap.size, 0, none⟩ = some (.int .i64 u) := (cell_of_row _ _ _ _ _ _ rw3).trans rfl
    have n1w3 : w3.cell? ⟨w.heap.size, 1, none⟩ = some (.int .i64 l) := (cell_of_row _ _ _ _ _ _ rw3).trans rfl
    have y3 : w.heap.size < w3.heap.size := Nat.lt_of_lt_of_le y2 hb3.size
    clear hb3 rw2 n0w2 n1w2 y2
    simp only [HE2.out, HN2.out]
    go_wp2_with fail
    refine (slots_all u l i c n hc _ (T.below hB3)).mono ?_
    rintro e w4 ⟨rfl, hb4⟩
    have hB4 := hB3.trans (hb4.mono (Nat.le_of_lt y3))
    have rw4 := (hb4.block _ y3).trans rw3
    have n0w4 : w4.cell? ⟨w.heap.size, 0, none⟩ = some (.int .i64 u) := (cell_of_row _ _ _ _ _ _ rw4).trans rfl
    have n1w4 : w4.cell? ⟨w.heap.size, 1, none⟩ = some (.int .i64 l) := (cell_of_row _ _ _ _ _ _ rw4).trans rfl
    have y4 : w.heap.size < w4.heap.size := Nat.lt_of_lt_of_le y3 hb4.size
    clear hb4 rw3 n0w3 n1w3 y3
    simp only [HS.out, HX.out]
    go_wp2_with fail
    refine (slots_all u l i c (min (n + 9) 2199023255552) hc _ (T.below hB4)).mono ?_
    rintro e w5 ⟨rfl, hb5⟩
    have hB5 := hB4.trans (hb5.mono (Nat.le_of_lt y4))
    have rw5 := (hb5.block _ y4).trans rw4
    have n0w5 : w5.cell? ⟨w.heap.size, 0, none⟩ = some (.int .i64 u) := (cell_of_row _ _ _ _ _ _ rw5).trans rfl
    have n1w5 : w5.cell? ⟨w.heap.size, 1, none⟩ = some (.int .i64 l) := (cell_of_row _ _ _ _ _ _ rw5).trans rfl
    have y5 : w.heap.size < w5.heap.size := Nat.lt_of_lt_of_le y4 hb5.size
    clear hb5 rw4 n0w4 n1w4 y4
    simp only [HS2.out, HY.out]
    go_wp2
    all_goals go_ret
    all_goals exact ⟨rfl, hB5⟩
set_option maxHeartbeats 8000000 in
set_option maxRecDepth 100000 in
theorem order_before (u l i c d n : Int) (hi : -9223372036854775808 ≤ i ∧ i ≤ 9223372036854775807) (hc : 0 ≤ c ∧ c ≤ 255) (hd : 0 ≤ d ∧ d ≤ 255) (hn : -9223372036854775808 ≤ n ∧ n ≤ 9223372036854775807) (h1 : earE u l i c = 0) (h2 : earE u l i d = 0) (h3 : timeB n = true) (h4 : n + 9 ≤ 2199023255552) (h6 : n < earN u l i c) 
    (w : World) (T : Tab w) (O : Oth w) :
    Calls Tryd.prog 6 #[.agg #[.int .i64 u, .int .i64 l], .int .i64 i, .int .u8 c, .int .u8 d, .int .i64 n] w fun e w' => e = .returned (.bool true) ∧ Below w.heap.size w w' := by
  have m1 := ear_mono u l i c d hc.1 h1 h2
  have m2 := ear_mono u l i d c hd.1 h2 h1
  have ba := earN_bounds u l i c
  have bb := earN_bounds u l i d
  obtain ⟨a, ha⟩ : ∃ x, earN u l i c = x := ⟨_, rfl⟩
  obtain ⟨b, hb⟩ : ∃ x, earN u l i d = x := ⟨_, rfl⟩
  rw [ha] at m1 m2 ba
  rw [hb] at m1 m2 bb
  have sord : (c ≤ d ∧ b ≤ a ∧ d < c + 1 ∧ a ≤ b) ∨ (c ≤ d ∧ c < d ∧ b ≤ a) ∨ (d ≤ c ∧ d < c ∧ a ≤ b) := by omega
  rw [ha] at h6
  have h5 : 0 ≤ n ∧ n ≤ 2199023255552 := by simpa only [timeB, decide_eq_true_eq] using h3
  have t2 : timeB (n + 9) = true := by simp only [timeB, decide_eq_true_eq]; omega
  have s1 : slotE u l i c n = 0 := by simp only [slotE, h1, h3]; rfl
  have hm : min (n + 9) 2199023255552 = n + 9 := by omega
  have s2 : slotE u l i c (n + 9) = 0 := by simp only [slotE, h1, t2]; rfl
  have hx : slotN u l i c n = 0 := by simp only [slotN, h1, h3, if_true, ha]; omega
  have hy : slotN u l i c (n + 9) = 0 := by simp only [slotN, h1, t2, if_true, ha]; omega
  have HE1 := Lib.hid (show earE u l i c = 0 from h1)
  have HN1 := Lib.hid (show earN u l i c = a from ha)
  have HE2 := Lib.hid (show earE u l i d = 0 from h2)
  have HN2 := Lib.hid (show earN u l i d = b from hb)
  have HS := Lib.hid (show slotE u l i c n = 0 from s1)
  have HX := Lib.hid (show slotN u l i c n = 0 from hx)
  have HS2 := Lib.hid (show slotE u l i c (min (n + 9) 2199023255552) = 0 from (by rw [hm]; exact s2))
  have HY := Lib.hid (show slotN u l i c (min (n + 9) 2199023255552) = 0 from (by rw [hm]; exact hy))
  clear h1 h2 m1 m2
  clear ha hb s1 s2 hx hy h3 hm t2
  rcases sord with ⟨g1, g2, g3, g4⟩ | ⟨g1, g2, g3⟩ | ⟨g1, g2, g3⟩
  all_goals
    go_enter Tryd.func6, Tryd.ntmps6
    go_wp2_with fail
    refine (alive_any _ T.alloc O.alloc).mono ?_
    rintro e w1 ⟨rfl, hb1⟩
    have hz1 := hb1.size
    simp only [World.size_alloc] at hz1
    have hB1 : Below w.heap.size w w1 := ((Below.refl _ _).alloc (Nat.le_refl _) _).trans (hb1.mono (by simp))
    have rn := fr_rows1 w (.cells #[.int .i64 u, .int .i64 l] 23)
    have rw1 := (hb1.block _ (by simp only [World.size_alloc]; omega)).trans rn
    have n0w1 : w1.cell? ⟨w.heap.size, 0, none⟩ = some (.int .i64 u) := (cell_of_row _ _ _ _ _ _ rw1).trans rfl
    have n1w1 : w1.cell? ⟨w.heap.size, 1, none⟩ = some (.int .i64 l) := (cell_of_row _ _ _ _ _ _ rw1).trans rfl
    have y1 : w.heap.size < w1.heap.size := by omega
    clear hb1 rn hz1
    go_wp2_with fail
    refine (earliest_all u l i c hc _ (T.below hB1)).mono ?_
    rintro e w2 ⟨rfl, hb2⟩
    have hB2 := hB1.trans (hb2.mono (Nat.le_of_lt y1))
    have rw2 := (hb2.block _ y1).trans rw1
    have n0w2 : w2.cell? ⟨w.heap.size, 0, none⟩ = some (.int .i64 u) := (cell_of_row _ _ _ _ _ _ rw2).trans rfl
    have n1w2 : w2.cell? ⟨w.heap.size, 1, none⟩ = some (.int .i64 l) := (cell_of_row _ _ _ _ _ _ rw2).trans rfl
    have y2 : w.heap.size < w2.heap.size := Nat.lt_of_lt_of_le y1 hb2.size
    clear hb2 rw1 n0w1 n1w1 y1
    simp only [HE1.out, HN1.out]
    go_wp2_with fail
    refine (earliest_all u l i d hd _ (T.below hB2)).mono ?_
    rintro e w3 ⟨rfl, hb3⟩
    have hB3 := hB2.trans (hb3.mono (Nat.le_of_lt y2))
    have rw3 := (hb3.block _ y2).trans rw2
    have n0w3 : w3.cell? ⟨w.heap.size, 0, none⟩ = some (.int .i64 u) := (cell_of_row _ _ _ _ _ _ rw3).trans rfl
    have n1w3 : w3.cell? ⟨w.heap.size, 1, none⟩ = some (.int .i64 l) := (cell_of_row _ _ _ _ _ _ rw3).trans rfl
    have y3 : w.heap.size < w3.heap.size := Nat.lt_of_lt_of_le y2 hb3.size
    clear hb3 rw2 n0w2 n1w2 y2
    simp only [HE2.out, HN2.out]
    go_wp2_with fail
    refine (slots_all u l i c n hc _ (T.below hB3)).mono ?_
    rintro e w4 ⟨rfl, hb4⟩
    have hB4 := hB3.trans (hb4.mono (Nat.le_of_lt y3))
    have rw4 := (hb4.block _ y3).trans rw3
    have n0w4 : w4.cell? ⟨w.heap.size, 0, none⟩ = some (.int .i64 u) := (cell_of_row _ _ _ _ _ _ rw4).trans rfl
    have n1w4 : w4.cell? ⟨w.heap.size, 1, none⟩ = some (.int .i64 l) := (cell_of_row _ _ _ _ _ _ rw4).trans rfl
    have y4 : w.heap.size < w4.heap.size := Nat.lt_of_lt_of_le y3 hb4.size
    clear hb4 rw3 n0w3 n1w3 y3
    simp only [HS.out, HX.out]
    go_wp2_with fail
    refine (slots_all u l i c (min (n + 9) 2199023255552) hc _ (T.below hB4)).mono ?_
    rintro e w5 ⟨rfl, hb5⟩
    have hB5 := hB4.trans (hb5.mono (Nat.le_of_lt y4))
    have rw5 := (hb5.block _ y4).trans rw4
    have n0w5 : w5.cell? ⟨w.heap.size, 0, none⟩ = some (.int .i64 u) := (cell_of_row _ _ _ _ _ _ rw5).trans rfl
    have n1w5 : w5.cell? ⟨w.heap.size, 1, none⟩ = some (.int .i64 l) := (cell_of_row _ _ _ _ _ _ rw5).trans rfl
    have y5 : w.heap.size < w5.heap.size := Nat.lt_of_lt_of_le y4 hb5.size
    clear hb5 rw4 n0w4 n1w4 y4
    simp only [HS2.out, HY.out]
    go_wp2
    all_goals go_ret
    all_goals exact ⟨rfl, hB5⟩
set_option maxHeartbeats 8000000 in
set_option maxRecDepth 100000 in
theorem order_from (u l i c d n : Int) (hi : -9223372036854775808 ≤ i ∧ i ≤ 9223372036854775807) (hc : 0 ≤ c ∧ c ≤ 255) (hd : 0 ≤ d ∧ d ≤ 255) (hn : -9223372036854775808 ≤ n ∧ n ≤ 9223372036854775807) (h1 : earE u l i c = 0) (h2 : earE u l i d = 0) (h3 : timeB n = true) (h4 : n + 9 ≤ 2199023255552) (h6 : earN u l i c ≤ n) 
    (w : World) (T : Tab w) (O : Oth w) :
    Calls Tryd.prog 6 #[.agg #[.int .i64 u, .int .i64 l], .int .i64 i, .int .u8 c, .int .u8 d, .int .i64 n] w fun e w' => e = .returned (.bool true) ∧ Below w.heap.size w w' := by
  have m1 := ear_mono u l i c d hc.1 h1 h2
  have m2 := ear_mono u l i d c hd.1 h2 h1
  have ba := earN_bounds u l i c
  have bb := earN_bounds u l i d
  obtain ⟨a, ha⟩ : ∃ x, earN u l i c = x := ⟨_, rfl⟩
  obtain ⟨b, hb⟩ : ∃ x, earN u l i d = x := ⟨_, rfl⟩
  rw [ha] at m1 m2 ba
  rw [hb] at m1 m2 bb
  have sord : (c ≤ d ∧ b ≤ a ∧ d < c + 1 ∧ a ≤ b) ∨ (c ≤ d ∧ c < d ∧ b ≤ a) ∨ (d ≤ c ∧ d < c ∧ a ≤ b) := by omega
  rw [ha] at h6
  have h5 : 0 ≤ n ∧ n ≤ 2199023255552 := by simpa only [timeB, decide_eq_true_eq] using h3
  have t2 : timeB (n + 9) = true := by simp only [timeB, decide_eq_true_eq]; omega
  have s1 : slotE u l i c n = 0 := by simp only [slotE, h1, h3]; rfl
  have hm : min (n + 9) 2199023255552 = n + 9 := by omega
  have s2 : slotE u l i c (n + 9) = 0 := by simp only [slotE, h1, t2]; rfl
  obtain ⟨x, hx⟩ : ∃ x, slotN u l i c n = x := ⟨_, rfl⟩
  have hx2 : x = max (n - a) 0 / 9 := by rw [← hx]; simp only [slotN, h1, h3, if_true, ha]
  have hy : slotN u l i c (n + 9) = x + 1 := by simp only [slotN, h1, t2, if_true, ha]; omega
  have hx9 : 0 ≤ x ∧ a + 9 * x ≤ n ∧ n < a + 9 * x + 9 := by omega
  have HE1 := Lib.hid (show earE u l i c = 0 from h1)
  have HN1 := Lib.hid (show earN u l i c = a from ha)
  have HE2 := Lib.hid (show earE u l i d = 0 from h2)
  have HN2 := Lib.hid (show earN u l i d = b from hb)
  have HS := Lib.hid (show slotE u l i c n = 0 from s1)
  have HX := Lib.hid (show slotN u l i c n = x from hx)
  have HS2 := Lib.hid (show slotE u l i c (min (n + 9) 2199023255552) = 0 from (by rw [hm]; exact s2))
  have HY := Lib.hid (show slotN u l i c (min (n + 9) 2199023255552) = x + 1 from (by rw [hm]; exact hy))
  clear h1 h2 m1 m2
  clear ha hb s1 s2 hx hy h3 hm t2 hx2
  rcases sord with ⟨g1, g2, g3, g4⟩ | ⟨g1, g2, g3⟩ | ⟨g1, g2, g3⟩
  all_goals
    go_enter Tryd.func6, Tryd.ntmps6
    go_wp2_with fail
    refine (alive_any _ T.alloc O.alloc).mono ?_
    rintro e w1 ⟨rfl, hb1⟩
    have hz1 := hb1.size
    simp only [World.size_alloc] at hz1
    have hB1 : Below w.heap.size w w1 := ((Below.refl _ _).alloc (Nat.le_refl _) _).trans (hb1.mono (by simp))
    have rn := fr_rows1 w (.cells #[.int .i64 u, .int .i64 l] 23)
    have rw1 := (hb1.block _ (by simp only [World.size_alloc]; omega)).trans rn
    have n0w1 : w1.cell? ⟨w.heap.size, 0, none⟩ = some (.int .i64 u) := (cell_of_row _ _ _ _ _ _ rw1).trans rfl
    have n1w1 : w1.cell? ⟨w.heap.size, 1, none⟩ = some (.int .i64 l) := (cell_of_row _ _ _ _ _ _ rw1).trans rfl
    have y1 : w.heap.size < w1.heap.size := by omega
    clear hb1 rn hz1
    go_wp2_with fail
    refine (earliest_all u l i c hc _ (T.below hB1)).mono ?_
    rintro e w2 ⟨rfl, hb2⟩
    have hB2 := hB1.trans (hb2.mono (Nat.le_of_lt y1))
    have rw2 := (hb2.block _ y1).trans rw1
    have n0w2 : w2.cell? ⟨w.heap.size, 0, none⟩ = some (.int .i64 u) := (cell_of_row _ _ _ _ _ _ rw2).trans rfl
    have n1w2 : w2.cell? ⟨w.heap.size, 1, none⟩ = some (.int .i64 l) := (cell_of_row _ _ _ _ _ _ rw2).trans rfl
    have y2 : w.heap.size < w2.heap.size := Nat.lt_of_lt_of_le y1 hb2.size
    clear hb2 rw1 n0w1 n1w1 y1
    simp only [HE1.out, HN1.out]
    go_wp2_with fail
    refine (earliest_all u l i d hd _ (T.below hB2)).mono ?_
    rintro e w3 ⟨rfl, hb3⟩
    have hB3 := hB2.trans (hb3.mono (Nat.le_of_lt y2))
    have rw3 := (hb3.block _ y2).trans rw2
    have n0w3 : w3.cell? ⟨w.heap.size, 0, none⟩ = some (.int .i64 u) := (cell_of_row _ _ _ _ _ _ rw3).trans rfl
    have n1w3 : w3.cell? ⟨w.heap.size, 1, none⟩ = some (.int .i64 l) := (cell_of_row _ _ _ _ _ _ rw3).trans rfl
    have y3 : w.heap.size < w3.heap.size := Nat.lt_of_lt_of_le y2 hb3.size
    clear hb3 rw2 n0w2 n1w2 y2
    simp only [HE2.out, HN2.out]
    go_wp2_with fail
    refine (slots_all u l i c n hc _ (T.below hB3)).mono ?_
    rintro e w4 ⟨rfl, hb4⟩
    have hB4 := hB3.trans (hb4.mono (Nat.le_of_lt y3))
    have rw4 := (hb4.block _ y3).trans rw3
    have n0w4 : w4.cell? ⟨w.heap.size, 0, none⟩ = some (.int .i64 u) := (cell_of_row _ _ _ _ _ _ rw4).trans rfl
    have n1w4 : w4.cell? ⟨w.heap.size, 1, none⟩ = some (.int .i64 l) := (cell_of_row _ _ _ _ _ _ rw4).trans rfl
    have y4 : w.heap.size < w4.heap.size := Nat.lt_of_lt_of_le y3 hb4.size
    clear hb4 rw3 n0w3 n1w3 y3
    simp only [HS.out, HX.out]
    go_wp2_with fail
    refine (slots_all u l i c (min (n + 9) 2199023255552) hc _ (T.below hB4)).mono ?_
    rintro e w5 ⟨rfl, hb5⟩
    have hB5 := hB4.trans (hb5.mono (Nat.le_of_lt y4))
    have rw5 := (hb5.block _ y4).trans rw4
    have n0w5 : w5.cell? ⟨w.heap.size, 0, none⟩ = some (.int .i64 u) := (cell_of_row _ _ _ _ _ _ rw5).trans rfl
    have n1w5 : w5.cell? ⟨w.heap.size, 1, none⟩ = some (.int .i64 l) := (cell_of_row _ _ _ _ _ _ rw5).trans rfl
    have y5 : w.heap.size < w5.heap.size := Nat.lt_of_lt_of_le y4 hb5.size
    clear hb5 rw4 n0w4 n1w4 y4
    simp only [HS2.out, HY.out]
    go_wp2
    all_goals go_ret
    all_goals exact ⟨rfl, hB5⟩
theorem walk (u l i c d n : Int) (_ : -9223372036854775808 ≤ u ∧ u ≤ 9223372036854775807) (_ : -9223372036854775808 ≤ l ∧ l ≤ 9223372036854775807) (hi : -9223372036854775808 ≤ i ∧ i ≤ 9223372036854775807) (hc : 0 ≤ c ∧ c ≤ 255) (hd : 0 ≤ d ∧ d ≤ 255) (hn : -9223372036854775808 ≤ n ∧ n ≤ 9223372036854775807) 
    (w : World) (T : Tab w) (O : Oth w) :
    Calls Tryd.prog 6 #[.agg #[.int .i64 u, .int .i64 l], .int .i64 i, .int .u8 c, .int .u8 d, .int .i64 n] w fun e w' => e = .returned (.bool true) ∧ Below w.heap.size w w' := by
  rcases earE_cases u l i c with h1 | h1 | h1
  · rcases earE_cases u l i d with h2 | h2 | h2
    · by_cases h3 : timeB n = true
      · by_cases h4 : n + 9 ≤ 2199023255552
        · by_cases h6 : earN u l i c ≤ n
          · exact order_from u l i c d n hi hc hd hn h1 h2 h3 h4 h6 w T O
          · exact order_before u l i c d n hi hc hd hn h1 h2 h3 h4 (by omega) w T O
        · exact order_edge u l i c d n hi hc hd hn h1 h2 h3 (by omega) w T O
      · exact order_late u l i c d n hi hc hd hn h1 h2 (by simpa using h3) w T O
    · exact order_d_bad2 u l i c d n hi hc hd hn h1 h2 w T O
    · exact order_d_bad8 u l i c d n hi hc hd hn h1 h2 w T O
  · exact order_c_bad2 u l i c d n hi hc hd hn h1 w T O
  · exact order_c_bad8 u l i c d n hi hc hd hn h1 w T O
end Go.Proofs.YtdmaekiejdahoaaDoor.deferralOrder
