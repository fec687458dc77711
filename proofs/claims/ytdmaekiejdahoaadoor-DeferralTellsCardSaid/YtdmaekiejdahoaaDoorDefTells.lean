/-
  The walk of DeferralTells: Space, Check, Until, Reserved, Earliest and Slots return what the reference returns.
-/
import Derived.Test.YtdmaekiejdahoaaDoorDoor
import Derived.Deep.RegionHeldLaw
namespace Go.Proofs.YtdmaekiejdahoaaDoor.deferralTells
open Go.ChangeShapes Go.WideShapes Go.ChangeAt Go.RowKit

set_option maxHeartbeats 4000000 in
theorem walk (u l i c n : Int) (_ : -9223372036854775808 ≤ u ∧ u ≤ 9223372036854775807) (_ : -9223372036854775808 ≤ l ∧ l ≤ 9223372036854775807) (_ : -9223372036854775808 ≤ i ∧ i ≤ 9223372036854775807) (hc : 0 ≤ c ∧ c ≤ 255) (_ : -9223372036854775808 ≤ n ∧ n ≤ 9223372036854775807) (w : World) (T : Tab w) :
    Calls Tryd.prog 3 #[.agg #[.int .i64 u, .int .i64 l], .int .i64 i, .int .u8 c, .int .i64 n] w fun e w' => e = .returned (.bool true) ∧ Below w.heap.size w w' := by
  go_enter Tryd.func3, Tryd.ntmps3
  go_wp2_with fail
  refine (space_any c hc _ T.alloc).mono ?_
  rintro e w1 ⟨rfl, hb1⟩
  have hz1 := hb1.size
  simp only [World.size_alloc] at hz1
  have hB1 : Below w.heap.size w w1 := ((Below.refl _ _).alloc (Nat.le_refl _) _).trans (hb1.mono (by simp))
  have rn := fr_rows1 w (.cells #[.int .i64 u, .int .i64 l] 23)
  have rw1 := (hb1.block _ (by simp only [World.size_alloc]; omega)).trans rn
  have n0w1 : w1.cell? ⟨w.heap.size, 0, none⟩ = some (.int .i64 u) := (cell_of_row _ _ _ _ _ _ rw1).trans rfl
  have n1w1 : w1.cell? ⟨w.heap.size, 1, none⟩ = some (.int .i64 l) := (cell_of_row _ _ _ _ _ _ rw1).trans rfl
  have y1 : w.heap.size < w1.heap.size := by omega
  clear hb1 rn hz1
  go_wp2_with fail
  refine (refspace_any c hc _).mono ?_
  rintro e w2 ⟨rfl, hb2⟩
  have hB2 := hB1.trans (hb2.mono (Nat.le_of_lt y1))
  have rw2 := (hb2.block _ y1).trans rw1
  have n0w2 : w2.cell? ⟨w.heap.size, 0, none⟩ = some (.int .i64 u) := (cell_of_row _ _ _ _ _ _ rw2).trans rfl
  have n1w2 : w2.cell? ⟨w.heap.size, 1, none⟩ = some (.int .i64 l) := (cell_of_row _ _ _ _ _ _ rw2).trans rfl
  have y2 : w.heap.size < w2.heap.size := Nat.lt_of_lt_of_le y1 hb2.size
  clear hb2 rw1 n0w1 n1w1 y1
  go_wp2_with fail
  refine (until_all u l _).mono ?_
  rintro e w3 ⟨rfl, hb3⟩
  have hB3 := hB2.trans (hb3.mono (Nat.le_of_lt y2))
  have rw3 := (hb3.block _ y2).trans rw2
  have n0w3 : w3.cell? ⟨w.heap.size, 0, none⟩ = some (.int .i64 u) := (cell_of_row _ _ _ _ _ _ rw3).trans rfl
  have n1w3 : w3.cell? ⟨w.heap.size, 1, none⟩ = some (.int .i64 l) := (cell_of_row _ _ _ _ _ _ rw3).trans rfl
  have y3 : w.heap.size < w3.heap.size := Nat.lt_of_lt_of_le y2 hb3.size
  clear hb3 rw2 n0w2 n1w2 y2
  go_wp2_with fail
  refine (refuntil_all u l _).mono ?_
  rintro e w4 ⟨rfl, hb4⟩
  have hB4 := hB3.trans (hb4.mono (Nat.le_of_lt y3))
  have rw4 := (hb4.block _ y3).trans rw3
  have n0w4 : w4.cell? ⟨w.heap.size, 0, none⟩ = some (.int .i64 u) := (cell_of_row _ _ _ _ _ _ rw4).trans rfl
  have n1w4 : w4.cell? ⟨w.heap.size, 1, none⟩ = some (.int .i64 l) := (cell_of_row _ _ _ _ _ _ rw4).trans rfl
  have y4 : w.heap.size < w4.heap.size := Nat.lt_of_lt_of_le y3 hb4.size
  clear hb4 rw3 n0w3 n1w3 y3
  go_wp2_with fail
  refine (reserved_all u l n _).mono ?_
  rintro e w5 ⟨rfl, hb5⟩
  have hB5 := hB4.trans (hb5.mono (Nat.le_of_lt y4))
  have rw5 := (hb5.block _ y4).trans rw4
  have n0w5 : w5.cell? ⟨w.heap.size, 0, none⟩ = some (.int .i64 u) := (cell_of_row _ _ _ _ _ _ rw5).trans rfl
  have n1w5 : w5.cell? ⟨w.heap.size, 1, none⟩ = some (.int .i64 l) := (cell_of_row _ _ _ _ _ _ rw5).trans rfl
  have y5 : w.heap.size < w5.heap.size := Nat.lt_of_lt_of_le y4 hb5.size
  clear hb5 rw4 n0w4 n1w4 y4
  go_wp2_with fail
  refine (refreserved_all u l n _).mono ?_
  rintro e w6 ⟨rfl, hb6⟩
  have hB6 := hB5.trans (hb6.mono (Nat.le_of_lt y5))
  have rw6 := (hb6.block _ y5).trans rw5
  have n0w6 : w6.cell? ⟨w.heap.size, 0, none⟩ = some (.int .i64 u) := (cell_of_row _ _ _ _ _ _ rw6).trans rfl
  have n1w6 : w6.cell? ⟨w.heap.size, 1, none⟩ = some (.int .i64 l) := (cell_of_row _ _ _ _ _ _ rw6).trans rfl
  have y6 : w.heap.size < w6.heap.size := Nat.lt_of_lt_of_le y5 hb6.size
  clear hb6 rw5 n0w5 n1w5 y5
  go_wp2_with fail
  refine (earliest_all u l i c hc _ (T.below hB6)).mono ?_
  rintro e w7 ⟨rfl, hb7⟩
  have hB7 := hB6.trans (hb7.mono (Nat.le_of_lt y6))
  have rw7 := (hb7.block _ y6).trans rw6
  have n0w7 : w7.cell? ⟨w.heap.size, 0, none⟩ = some (.int .i64 u) := (cell_of_row _ _ _ _ _ _ rw7).trans rfl
  have n1w7 : w7.cell? ⟨w.heap.size, 1, none⟩ = some (.int .i64 l) := (cell_of_row _ _ _ _ _ _ rw7).trans rfl
  have y7 : w.heap.size < w7.heap.size := Nat.lt_of_lt_of_le y6 hb7.size
  clear hb7 rw6 n0w6 n1w6 y6
  go_wp2_with fail
  refine (refearliest_all u l i c hc _).mono ?_
  rintro e w8 ⟨rfl, hb8⟩
  have hB8 := hB7.trans (hb8.mono (Nat.le_of_lt y7))
  have rw8 := (hb8.block _ y7).trans rw7
  have n0w8 : w8.cell? ⟨w.heap.size, 0, none⟩ = some (.int .i64 u) := (cell_of_row _ _ _ _ _ _ rw8).trans rfl
  have n1w8 : w8.cell? ⟨w.heap.size, 1, none⟩ = some (.int .i64 l) := (cell_of_row _ _ _ _ _ _ rw8).trans rfl
  have y8 : w.heap.size < w8.heap.size := Nat.lt_of_lt_of_le y7 hb8.size
  clear hb8 rw7 n0w7 n1w7 y7
  go_wp2_with fail
  refine (slots_all u l i c n hc _ (T.below hB8)).mono ?_
  rintro e w9 ⟨rfl, hb9⟩
  have hB9 := hB8.trans (hb9.mono (Nat.le_of_lt y8))
  have rw9 := (hb9.block _ y8).trans rw8
  have n0w9 : w9.cell? ⟨w.heap.size, 0, none⟩ = some (.int .i64 u) := (cell_of_row _ _ _ _ _ _ rw9).trans rfl
  have n1w9 : w9.cell? ⟨w.heap.size, 1, none⟩ = some (.int .i64 l) := (cell_of_row _ _ _ _ _ _ rw9).trans rfl
  have y9 : w.heap.size < w9.heap.size := Nat.lt_of_lt_of_le y8 hb9.size
  clear hb9 rw8 n0w8 n1w8 y8
  go_wp2_with fail
  refine (refslots_all u l i c n hc _).mono ?_
  rintro e w10 ⟨rfl, hb10⟩
  have hB10 := hB9.trans (hb10.mono (Nat.le_of_lt y9))
  have rw10 := (hb10.block _ y9).trans rw9
  have n0w10 : w10.cell? ⟨w.heap.size, 0, none⟩ = some (.int .i64 u) := (cell_of_row _ _ _ _ _ _ rw10).trans rfl
  have n1w10 : w10.cell? ⟨w.heap.size, 1, none⟩ = some (.int .i64 l) := (cell_of_row _ _ _ _ _ _ rw10).trans rfl
  have y10 : w.heap.size < w10.heap.size := Nat.lt_of_lt_of_le y9 hb10.size
  clear hb10 rw9 n0w9 n1w9 y9
  go_wp2_with fail
  go_region_held_law (fun w' => w'.cell? ⟨w.heap.size, 0, none⟩ = some (.int .i64 u) ∧ w'.cell? ⟨w.heap.size, 1, none⟩ = some (.int .i64 l))
    (first | go_keep | exact ⟨n0w10, n1w10⟩ | exact ⟨n0w11, n1w11⟩ | exact ⟨n0w12, n1w12⟩)
    (first
      | (go_simp; go_at_call 18; refine (check_any u l _).mono ?_; rintro e w11 ⟨rfl, hb11⟩; have hB11 := hB10.drew.trans (hb11.mono (Nat.le_of_lt y10)); have rw11 := (hb11.block _ y10).trans rw10; have n0w11 : w11.cell? ⟨w.heap.size, 0, none⟩ = some (.int .i64 u) := (cell_of_row _ _ _ _ _ _ rw11).trans rfl; have n1w11 : w11.cell? ⟨w.heap.size, 1, none⟩ = some (.int .i64 l) := (cell_of_row _ _ _ _ _ _ rw11).trans rfl; have y11 : w.heap.size < w11.heap.size := Nat.lt_of_lt_of_le y10 hb11.size)
      | (go_simp; go_at_call 19; refine (refcheck_any u l _).mono ?_; rintro e w12 ⟨rfl, hb12⟩; have hB12 := hB11.trans (hb12.mono (Nat.le_of_lt y11)); have rw12 := (hb12.block _ y11).trans rw11; have n0w12 : w12.cell? ⟨w.heap.size, 0, none⟩ = some (.int .i64 u) := (cell_of_row _ _ _ _ _ _ rw12).trans rfl; have n1w12 : w12.cell? ⟨w.heap.size, 1, none⟩ = some (.int .i64 l) := (cell_of_row _ _ _ _ _ _ rw12).trans rfl; have y12 : w.heap.size < w12.heap.size := Nat.lt_of_lt_of_le y11 hb12.size))
  go_wp2
  go_ret
  exact ⟨rfl, hB12⟩
end Go.Proofs.YtdmaekiejdahoaaDoor.deferralTells
