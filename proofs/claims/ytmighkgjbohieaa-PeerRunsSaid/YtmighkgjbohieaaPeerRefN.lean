/-
  The reference's Handle: the close.
-/
import Derived.Test.YtmighkgjbohieaaPeerRefK
set_option linter.unusedVariables false
set_option linter.unusedSimpArgs false
namespace Go.Proofs.Ytmighkgjbohieaa
open Go.ChangeShapes Go.WideShapes Go.ChangeAt Go.RowKit Go.Great

set_option maxRecDepth 100000 in
set_option maxHeartbeats 4000000 in
theorem rhandle_end00 (k : Lk) (hB : k.By) (hz : 0 ≤ k.st) (now : Int) (h : k.chk = 0) (ht : tinB now = true) (mb mo cap : Nat) (x1 x2 x3 x4 : Int) (hx1 : 0 ≤ x1 ∧ x1 ≤ 255) (hx2 : 0 ≤ x2 ∧ x2 ≤ 255) (hx3 : 0 ≤ x3 ∧ x3 ≤ 255) (hx4 : 0 ≤ x4 ∧ x4 ≤ 255) (hcap : 5 ≤ cap) (a c : Int) (hA : x1 + 256 * x2 = a) (hC : x3 + 256 * x4 = c) (ha : (a == 0) = false) (hs : k.st = 5) (hc0 : (c == 0) = true) (ho : (k.ot == 0) = true) (w : World) (m0 : w.cell? ⟨mb, mo, none⟩ = some (.int .u8 3)) (m1 : w.cell? ⟨mb, mo + 1, none⟩ = some (.int .u8 x1)) (m2 : w.cell? ⟨mb, mo + 2, none⟩ = some (.int .u8 x2)) (m3 : w.cell? ⟨mb, mo + 3, none⟩ = some (.int .u8 x3)) (m4 : w.cell? ⟨mb, mo + 4, none⟩ = some (.int .u8 x4)) : Calls Try.prog 30 #[.agg k.cells, .slice (some ⟨mb, mo, none⟩) 5 cap, .int .i64 now] w (Ret3 w (endK k) [] 0) := by
  have hc0' : (c != 0) = false := by simp only [bne, hc0]; rfl
  have HA := Lib.hid hA
  have HC2 := Lib.hid hC
  clear hA hC
  have hmb : mb < w.heap.size := World.block_lt_of_cell? w _ m0
  obtain ⟨n0, n1⟩ := tin_in ht
  obtain ⟨i0, i1, j0, j1⟩ := (chk_val h).toIn
  obtain ⟨q0, q1⟩ := fr_rows2 w (.cells k.cells 27) (.cells #[.int .u8 0, .int .u8 0, .int .u8 0, .int .u8 0, .int .u8 0, .int .u8 0, .int .u8 0, .int .u8 0, .int .u8 0, .int .u8 0, .int .u8 0, .int .u8 0, .int .u8 0, .int .i64 0, .int .i64 0, .int .i64 0, .int .i64 0] 27)
  have Q0 := Lib.hid q0
  have Q1 := Lib.hid q1
  clear q0 q1
  have HI := Lib.hid (link_info2 k)
  have HZ := Lib.hid link_infoZ
  have HC := Lib.hid (link_info2 (endK k))
  have hbv : beforeI k now = 0 := by simp only [beforeI, h, ht]; rfl
  go_enter Try.func30, Try.ntmps30
  go_wp2_with (with_reducible refine wpList_load_row rfl 27 (.tmp 3) rfl (w.heap.size) rfl 27 (k).cells (0, 0) _ Q0.out Try.underlying27 rfl HI.out ?_)
  refine (before_any k hB hz now _).mono ?_
  rintro e w1 ⟨rfl, hb⟩
  have P0 := Lib.hid (row_below hb Q0.out)
  have P1 := Lib.hid (row_below hb Q1.out)
  have HB := Lib.hid (below_step (below_more (below_more (Below.refl w.heap.size w) (.cells k.cells 27)) (.cells #[.int .u8 0, .int .u8 0, .int .u8 0, .int .u8 0, .int .u8 0, .int .u8 0, .int .u8 0, .int .u8 0, .int .u8 0, .int .u8 0, .int .u8 0, .int .u8 0, .int .u8 0, .int .i64 0, .int .i64 0, .int .i64 0, .int .i64 0] 27)) hb)
  have M0 := Lib.hid (below_kept hb (below_kept ((Below.refl _ _).alloc (Nat.le_refl _) _) (below_kept ((Below.refl _ _).alloc (Nat.le_refl _) _) m0)))
  have M1 := Lib.hid (below_kept hb (below_kept ((Below.refl _ _).alloc (Nat.le_refl _) _) (below_kept ((Below.refl _ _).alloc (Nat.le_refl _) _) m1)))
  have M2 := Lib.hid (below_kept hb (below_kept ((Below.refl _ _).alloc (Nat.le_refl _) _) (below_kept ((Below.refl _ _).alloc (Nat.le_refl _) _) m2)))
  have M3 := Lib.hid (below_kept hb (below_kept ((Below.refl _ _).alloc (Nat.le_refl _) _) (below_kept ((Below.refl _ _).alloc (Nat.le_refl _) _) m3)))
  have M4 := Lib.hid (below_kept hb (below_kept ((Below.refl _ _).alloc (Nat.le_refl _) _) (below_kept ((Below.refl _ _).alloc (Nat.le_refl _) _) m4)))
  have m0w : w1.cell? ⟨mb, mo, none⟩ = some (.int .u8 3) := M0.out
  have m1w : w1.cell? ⟨mb, mo + 1, none⟩ = some (.int .u8 x1) := M1.out
  have m2w : w1.cell? ⟨mb, mo + 2, none⟩ = some (.int .u8 x2) := M2.out
  have m3w : w1.cell? ⟨mb, mo + 3, none⟩ = some (.int .u8 x3) := M3.out
  have m4w : w1.cell? ⟨mb, mo + 4, none⟩ = some (.int .u8 x4) := M4.out
  have myw : mb < w1.heap.size := World.block_lt_of_cell? _ _ m0w
  clear hb Q0 Q1 hmb m0 m1 m2 m3 m4
  simp only [hbv]
  go_wp2_with fail
  go_region
  simp only [HA.out, HC2.out]
  have P0 := Lib.hid (row_drew P0.out)
  have P1 := Lib.hid (row_drew P1.out)
  have HB := Lib.hid HB.out.drew
  have m0w : w1.drew.cell? ⟨mb, mo, none⟩ = some (.int .u8 3) := M0.out
  have myw : mb < w1.drew.heap.size := World.block_lt_of_cell? _ _ m0w
  clear m1w m2w m3w m4w M0 M1 M2 M3 M4
  generalize hgen : w1.drew = w4 at *
  clear hgen
  have s12 : w4.cell? ⟨w.heap.size, 12, none⟩ = some (.int .u8 k.st) := (cell_of_row _ _ _ _ _ _ P0.out).trans (lk_st k)
  have s13 : w4.cell? ⟨w.heap.size, 13, none⟩ = some (.int .i64 k.id) := (cell_of_row _ _ _ _ _ _ P0.out).trans rfl
  have s14 : w4.cell? ⟨w.heap.size, 14, none⟩ = some (.int .i64 k.ot) := (cell_of_row _ _ _ _ _ _ P0.out).trans rfl
  rw [hs] at s12
  go_wp2_with (with_reducible refine wpList_load_row rfl 27 (.tmp 3) rfl (w.heap.size) rfl 27 (k).cells (0, 0) _ P0.out Try.underlying27 rfl HI.out ?_)
  refine (ref_ended k i0 i1 _).mono ?_
  rintro e w3 ⟨rfl, hb⟩
  have P5 := Lib.hid (row_below hb P1.out)
  have HB3 := Lib.hid (below_step HB.out hb)
  clear hb s12 s13 s14 m0w myw
  go_wp2_with ((with_reducible refine wpList_store_rowTo rfl 27 (.tmp 6) (.tmp 147) rfl rfl (w.heap.size + 1) (endK k).cells ?_ ?_ 27 #[.int .u8 0, .int .u8 0, .int .u8 0, .int .u8 0, .int .u8 0, .int .u8 0, .int .u8 0, .int .u8 0, .int .u8 0, .int .u8 0, .int .u8 0, .int .u8 0, .int .u8 0, .int .i64 0, .int .i64 0, .int .i64 0, .int .i64 0] P5.out HC.out rfl (one_cells _) ?_); (as_aux_lemma => kernel_rfl); (as_aux_lemma => kernel_rfl))
  refine bodyPost_ret (results_row3 rfl _ _ (w.heap.size + 1) 27 (endK k).cells (0, 0) _ rfl (setRow_heap _ _ _ _ _ _ P5.out) Try.underlying27 rfl HC.out) rfl ?_
  exact ⟨_, rfl, outAt_nil _ _, below_setRow' HB3.out (Nat.le_succ _) _⟩
set_option maxRecDepth 100000 in
set_option maxHeartbeats 4000000 in
theorem rhandle_shut00 (k : Lk) (hB : k.By) (hz : 0 ≤ k.st) (now : Int) (h : k.chk = 0) (ht : tinB now = true) (mb mo cap : Nat) (x1 x2 x3 x4 : Int) (hx1 : 0 ≤ x1 ∧ x1 ≤ 255) (hx2 : 0 ≤ x2 ∧ x2 ≤ 255) (hx3 : 0 ≤ x3 ∧ x3 ≤ 255) (hx4 : 0 ≤ x4 ∧ x4 ≤ 255) (hcap : 5 ≤ cap) (a c : Int) (hA : x1 + 256 * x2 = a) (hC : x3 + 256 * x4 = c) (ha : (a == 0) = false) (hs0 : (k.st == 0) = false) (hs5 : (k.st == 5) = false) (hc0 : (c == 0) = true) (ho : (k.ot == 0) = true) (w : World) (m0 : w.cell? ⟨mb, mo, none⟩ = some (.int .u8 3)) (m1 : w.cell? ⟨mb, mo + 1, none⟩ = some (.int .u8 x1)) (m2 : w.cell? ⟨mb, mo + 2, none⟩ = some (.int .u8 x2)) (m3 : w.cell? ⟨mb, mo + 3, none⟩ = some (.int .u8 x3)) (m4 : w.cell? ⟨mb, mo + 4, none⟩ = some (.int .u8 x4)) : Calls Try.prog 30 #[.agg k.cells, .slice (some ⟨mb, mo, none⟩) 5 cap, .int .i64 now] w (Ret3 w (clK k now) [msgOf 3 k.id k.ot] 0) := by
  have hc0' : (c != 0) = false := by simp only [bne, hc0]; rfl
  have HA := Lib.hid hA
  have HC2 := Lib.hid hC
  clear hA hC
  have hmb : mb < w.heap.size := World.block_lt_of_cell? w _ m0
  obtain ⟨n0, n1⟩ := tin_in ht
  obtain ⟨i0, i1, j0, j1⟩ := (chk_val h).toIn
  obtain ⟨q0, q1⟩ := fr_rows2 w (.cells k.cells 27) (.cells #[.int .u8 0, .int .u8 0, .int .u8 0, .int .u8 0, .int .u8 0, .int .u8 0, .int .u8 0, .int .u8 0, .int .u8 0, .int .u8 0, .int .u8 0, .int .u8 0, .int .u8 0, .int .i64 0, .int .i64 0, .int .i64 0, .int .i64 0] 27)
  have Q0 := Lib.hid q0
  have Q1 := Lib.hid q1
  clear q0 q1
  have HI := Lib.hid (link_info2 k)
  have HZ := Lib.hid link_infoZ
  have HC := Lib.hid (link_info2 (clK k now))
  have hbv : beforeI k now = 0 := by simp only [beforeI, h, ht]; rfl
  go_enter Try.func30, Try.ntmps30
  go_wp2_with (with_reducible refine wpList_load_row rfl 27 (.tmp 3) rfl (w.heap.size) rfl 27 (k).cells (0, 0) _ Q0.out Try.underlying27 rfl HI.out ?_)
  refine (before_any k hB hz now _).mono ?_
  rintro e w1 ⟨rfl, hb⟩
  have P0 := Lib.hid (row_below hb Q0.out)
  have P1 := Lib.hid (row_below hb Q1.out)
  have HB := Lib.hid (below_step (below_more (below_more (Below.refl w.heap.size w) (.cells k.cells 27)) (.cells #[.int .u8 0, .int .u8 0, .int .u8 0, .int .u8 0, .int .u8 0, .int .u8 0, .int .u8 0, .int .u8 0, .int .u8 0, .int .u8 0, .int .u8 0, .int .u8 0, .int .u8 0, .int .i64 0, .int .i64 0, .int .i64 0, .int .i64 0] 27)) hb)
  have M0 := Lib.hid (below_kept hb (below_kept ((Below.refl _ _).alloc (Nat.le_refl _) _) (below_kept ((Below.refl _ _).alloc (Nat.le_refl _) _) m0)))
  have M1 := Lib.hid (below_kept hb (below_kept ((Below.refl _ _).alloc (Nat.le_refl _) _) (below_kept ((Below.refl _ _).alloc (Nat.le_refl _) _) m1)))
  have M2 := Lib.hid (below_kept hb (below_kept ((Below.refl _ _).alloc (Nat.le_refl _) _) (below_kept ((Below.refl _ _).alloc (Nat.le_refl _) _) m2)))
  have M3 := Lib.hid (below_kept hb (below_kept ((Below.refl _ _).alloc (Nat.le_refl _) _) (below_kept ((Below.refl _ _).alloc (Nat.le_refl _) _) m3)))
  have M4 := Lib.hid (below_kept hb (below_kept ((Below.refl _ _).alloc (Nat.le_refl _) _) (below_kept ((Below.refl _ _).alloc (Nat.le_refl _) _) m4)))
  have m0w : w1.cell? ⟨mb, mo, none⟩ = some (.int .u8 3) := M0.out
  have m1w : w1.cell? ⟨mb, mo + 1, none⟩ = some (.int .u8 x1) := M1.out
  have m2w : w1.cell? ⟨mb, mo + 2, none⟩ = some (.int .u8 x2) := M2.out
  have m3w : w1.cell? ⟨mb, mo + 3, none⟩ = some (.int .u8 x3) := M3.out
  have m4w : w1.cell? ⟨mb, mo + 4, none⟩ = some (.int .u8 x4) := M4.out
  have myw : mb < w1.heap.size := World.block_lt_of_cell? _ _ m0w
  clear hb Q0 Q1 hmb m0 m1 m2 m3 m4
  simp only [hbv]
  go_wp2_with fail
  go_region
  simp only [HA.out, HC2.out]
  have P0 := Lib.hid (row_drew P0.out)
  have P1 := Lib.hid (row_drew P1.out)
  have HB := Lib.hid HB.out.drew
  have m0w : w1.drew.cell? ⟨mb, mo, none⟩ = some (.int .u8 3) := M0.out
  have myw : mb < w1.drew.heap.size := World.block_lt_of_cell? _ _ m0w
  clear m1w m2w m3w m4w M0 M1 M2 M3 M4
  generalize hgen : w1.drew = w4 at *
  clear hgen
  have s12 : w4.cell? ⟨w.heap.size, 12, none⟩ = some (.int .u8 k.st) := (cell_of_row _ _ _ _ _ _ P0.out).trans (lk_st k)
  have s13 : w4.cell? ⟨w.heap.size, 13, none⟩ = some (.int .i64 k.id) := (cell_of_row _ _ _ _ _ _ P0.out).trans rfl
  have s14 : w4.cell? ⟨w.heap.size, 14, none⟩ = some (.int .i64 k.ot) := (cell_of_row _ _ _ _ _ _ P0.out).trans rfl
  go_wp2_with (with_reducible refine wpList_load_row rfl 27 (.tmp 3) rfl (w.heap.size) rfl 27 (k).cells (0, 0) _ P0.out Try.underlying27 rfl HI.out ?_)
  refine (ref_shut k i0 i1 j0 j1 now n0 n1 _).mono ?_
  rintro e w3 ⟨v, rfl, hO, hb⟩
  have P5 := Lib.hid (row_below hb P1.out)
  have HB3 := Lib.hid (below_step HB.out hb)
  have hz2 : w.heap.size + 1 < w4.heap.size := row_lt P1.out
  have hz3 : w.heap.size + 1 < w3.heap.size := row_lt P5.out
  have HO := Lib.hid hO
  clear hb hO s12 s13 s14 m0w myw
  have P6 := Lib.hid (row_alloc (o := .cells (clK k now).cells 27) P5.out)
  have P7 := Lib.hid (heap_alloc_new w3 (.cells (clK k now).cells 27))
  go_wp2_with (first
    | ((with_reducible refine wpList_store_rowTo rfl 27 (.tmp 15) (.tmp 152) rfl rfl w3.heap.size (clK k now).cells ?_ ?_ 27 #[.int .u8 0, .int .u8 0, .int .u8 0, .int .u8 0, .int .u8 0, .int .u8 0, .int .u8 0, .int .u8 0, .int .u8 0, .int .u8 0, .int .u8 0, .int .u8 0, .int .u8 0, .int .i64 0, .int .i64 0, .int .i64 0, .int .i64 0] (heap_alloc_new _ _) HC.out rfl (one_cells _) ?_); (as_aux_lemma => kernel_rfl); (as_aux_lemma => kernel_rfl); rw [setRow_alloc])
    | (with_reducible refine wpList_load_row rfl 27 (.tmp 15) rfl (w3.heap.size) rfl 27 (clK k now).cells (0, 0) _ P7.out Try.underlying27 rfl HC.out ?_)
    | ((with_reducible refine wpList_store_rowTo rfl 27 (.tmp 6) (.tmp 154) rfl rfl (w.heap.size + 1) (clK k now).cells ?_ ?_ 27 #[.int .u8 0, .int .u8 0, .int .u8 0, .int .u8 0, .int .u8 0, .int .u8 0, .int .u8 0, .int .u8 0, .int .u8 0, .int .u8 0, .int .u8 0, .int .u8 0, .int .u8 0, .int .i64 0, .int .i64 0, .int .i64 0, .int .i64 0] P6.out HC.out rfl (one_cells _) ?_); (as_aux_lemma => kernel_rfl); (as_aux_lemma => kernel_rfl)))
  refine bodyPost_ret (results_row3 rfl _ _ (w.heap.size + 1) 27 (clK k now).cells (0, 0) _ rfl (setRow_heap _ _ _ _ _ _ P6.out) Try.underlying27 rfl HC.out) rfl ?_
  exact ⟨_, rfl, ((HO.out.below ((Below.refl _ _).alloc (Nat.le_refl _) _)).setRow _ hz2 _).mono HB.out.size, below_setRow' (below_more HB3.out _) (Nat.le_succ _) _⟩
set_option maxRecDepth 100000 in
set_option maxHeartbeats 4000000 in
theorem rhandle_end01 (k : Lk) (hB : k.By) (hz : 0 ≤ k.st) (now : Int) (h : k.chk = 0) (ht : tinB now = true) (mb mo cap : Nat) (x1 x2 x3 x4 : Int) (hx1 : 0 ≤ x1 ∧ x1 ≤ 255) (hx2 : 0 ≤ x2 ∧ x2 ≤ 255) (hx3 : 0 ≤ x3 ∧ x3 ≤ 255) (hx4 : 0 ≤ x4 ∧ x4 ≤ 255) (hcap : 5 ≤ cap) (a c : Int) (hA : x1 + 256 * x2 = a) (hC : x3 + 256 * x4 = c) (ha : (a == 0) = false) (hs : k.st = 5) (hc0 : (c == 0) = true) (ho : (k.ot == 0) = false) (hq : (k.ot == a) = true) (w : World) (m0 : w.cell? ⟨mb, mo, none⟩ = some (.int .u8 3)) (m1 : w.cell? ⟨mb, mo + 1, none⟩ = some (.int .u8 x1)) (m2 : w.cell? ⟨mb, mo + 2, none⟩ = some (.int .u8 x2)) (m3 : w.cell? ⟨mb, mo + 3, none⟩ = some (.int .u8 x3)) (m4 : w.cell? ⟨mb, mo + 4, none⟩ = some (.int .u8 x4)) : Calls Try.prog 30 #[.agg k.cells, .slice (some ⟨mb, mo, none⟩) 5 cap, .int .i64 now] w (Ret3 w (endK k) [] 0) := by
  have hc0' : (c != 0) = false := by simp only [bne, hc0]; rfl
  have HA := Lib.hid hA
  have HC2 := Lib.hid hC
  clear hA hC
  have hmb : mb < w.heap.size := World.block_lt_of_cell? w _ m0
  obtain ⟨n0, n1⟩ := tin_in ht
  obtain ⟨i0, i1, j0, j1⟩ := (chk_val h).toIn
  obtain ⟨q0, q1⟩ := fr_rows2 w (.cells k.cells 27) (.cells #[.int .u8 0, .int .u8 0, .int .u8 0, .int .u8 0, .int .u8 0, .int .u8 0, .int .u8 0, .int .u8 0, .int .u8 0, .int .u8 0, .int .u8 0, .int .u8 0, .int .u8 0, .int .i64 0, .int .i64 0, .int .i64 0, .int .i64 0] 27)
  have Q0 := Lib.hid q0
  have Q1 := Lib.hid q1
  clear q0 q1
  have HI := Lib.hid (link_info2 k)
  have HZ := Lib.hid link_infoZ
  have HC := Lib.hid (link_info2 (endK k))
  have hbv : beforeI k now = 0 := by simp only [beforeI, h, ht]; rfl
  go_enter Try.func30, Try.ntmps30
  go_wp2_with (with_reducible refine wpList_load_row rfl 27 (.tmp 3) rfl (w.heap.size) rfl 27 (k).cells (0, 0) _ Q0.out Try.underlying27 rfl HI.out ?_)
  refine (before_any k hB hz now _).mono ?_
  rintro e w1 ⟨rfl, hb⟩
  have P0 := Lib.hid (row_below hb Q0.out)
  have P1 := Lib.hid (row_below hb Q1.out)
  have HB := Lib.hid (below_step (below_more (below_more (Below.refl w.heap.size w) (.cells k.cells 27)) (.cells #[.int .u8 0, .int .u8 0, .int .u8 0, .int .u8 0, .int .u8 0, .int .u8 0, .int .u8 0, .int .u8 0, .int .u8 0, .int .u8 0, .int .u8 0, .int .u8 0, .int .u8 0, .int .i64 0, .int .i64 0, .int .i64 0, .int .i64 0] 27)) hb)
  have M0 := Lib.hid (below_kept hb (below_kept ((Below.refl _ _).alloc (Nat.le_refl _) _) (below_kept ((Below.refl _ _).alloc (Nat.le_refl _) _) m0)))
  have M1 := Lib.hid (below_kept hb (below_kept ((Below.refl _ _).alloc (Nat.le_refl _) _) (below_kept ((Below.refl _ _).alloc (Nat.le_refl _) _) m1)))
  have M2 := Lib.hid (below_kept hb (below_kept ((Below.refl _ _).alloc (Nat.le_refl _) _) (below_kept ((Below.refl _ _).alloc (Nat.le_refl _) _) m2)))
  have M3 := Lib.hid (below_kept hb (below_kept ((Below.refl _ _).alloc (Nat.le_refl _) _) (below_kept ((Below.refl _ _).alloc (Nat.le_refl _) _) m3)))
  have M4 := Lib.hid (below_kept hb (below_kept ((Below.refl _ _).alloc (Nat.le_refl _) _) (below_kept ((Below.refl _ _).alloc (Nat.le_refl _) _) m4)))
  have m0w : w1.cell? ⟨mb, mo, none⟩ = some (.int .u8 3) := M0.out
  have m1w : w1.cell? ⟨mb, mo + 1, none⟩ = some (.int .u8 x1) := M1.out
  have m2w : w1.cell? ⟨mb, mo + 2, none⟩ = some (.int .u8 x2) := M2.out
  have m3w : w1.cell? ⟨mb, mo + 3, none⟩ = some (.int .u8 x3) := M3.out
  have m4w : w1.cell? ⟨mb, mo + 4, none⟩ = some (.int .u8 x4) := M4.out
  have myw : mb < w1.heap.size := World.block_lt_of_cell? _ _ m0w
  clear hb Q0 Q1 hmb m0 m1 m2 m3 m4
  simp only [hbv]
  go_wp2_with fail
  go_region
  simp only [HA.out, HC2.out]
  have P0 := Lib.hid (row_drew P0.out)
  have P1 := Lib.hid (row_drew P1.out)
  have HB := Lib.hid HB.out.drew
  have m0w : w1.drew.cell? ⟨mb, mo, none⟩ = some (.int .u8 3) := M0.out
  have myw : mb < w1.drew.heap.size := World.block_lt_of_cell? _ _ m0w
  clear m1w m2w m3w m4w M0 M1 M2 M3 M4
  generalize hgen : w1.drew = w4 at *
  clear hgen
  have s12 : w4.cell? ⟨w.heap.size, 12, none⟩ = some (.int .u8 k.st) := (cell_of_row _ _ _ _ _ _ P0.out).trans (lk_st k)
  have s13 : w4.cell? ⟨w.heap.size, 13, none⟩ = some (.int .i64 k.id) := (cell_of_row _ _ _ _ _ _ P0.out).trans rfl
  have s14 : w4.cell? ⟨w.heap.size, 14, none⟩ = some (.int .i64 k.ot) := (cell_of_row _ _ _ _ _ _ P0.out).trans rfl
  rw [hs] at s12
  go_wp2_with (with_reducible refine wpList_load_row rfl 27 (.tmp 3) rfl (w.heap.size) rfl 27 (k).cells (0, 0) _ P0.out Try.underlying27 rfl HI.out ?_)
  refine (ref_ended k i0 i1 _).mono ?_
  rintro e w3 ⟨rfl, hb⟩
  have P5 := Lib.hid (row_below hb P1.out)
  have HB3 := Lib.hid (below_step HB.out hb)
  clear hb s12 s13 s14 m0w myw
  go_wp2_with ((with_reducible refine wpList_store_rowTo rfl 27 (.tmp 6) (.tmp 147) rfl rfl (w.heap.size + 1) (endK k).cells ?_ ?_ 27 #[.int .u8 0, .int .u8 0, .int .u8 0, .int .u8 0, .int .u8 0, .int .u8 0, .int .u8 0, .int .u8 0, .int .u8 0, .int .u8 0, .int .u8 0, .int .u8 0, .int .u8 0, .int .i64 0, .int .i64 0, .int .i64 0, .int .i64 0] P5.out HC.out rfl (one_cells _) ?_); (as_aux_lemma => kernel_rfl); (as_aux_lemma => kernel_rfl))
  refine bodyPost_ret (results_row3 rfl _ _ (w.heap.size + 1) 27 (endK k).cells (0, 0) _ rfl (setRow_heap _ _ _ _ _ _ P5.out) Try.underlying27 rfl HC.out) rfl ?_
  exact ⟨_, rfl, outAt_nil _ _, below_setRow' HB3.out (Nat.le_succ _) _⟩
set_option maxRecDepth 100000 in
set_option maxHeartbeats 4000000 in
theorem rhandle_shut01 (k : Lk) (hB : k.By) (hz : 0 ≤ k.st) (now : Int) (h : k.chk = 0) (ht : tinB now = true) (mb mo cap : Nat) (x1 x2 x3 x4 : Int) (hx1 : 0 ≤ x1 ∧ x1 ≤ 255) (hx2 : 0 ≤ x2 ∧ x2 ≤ 255) (hx3 : 0 ≤ x3 ∧ x3 ≤ 255) (hx4 : 0 ≤ x4 ∧ x4 ≤ 255) (hcap : 5 ≤ cap) (a c : Int) (hA : x1 + 256 * x2 = a) (hC : x3 + 256 * x4 = c) (ha : (a == 0) = false) (hs0 : (k.st == 0) = false) (hs5 : (k.st == 5) = false) (hc0 : (c == 0) = true) (ho : (k.ot == 0) = false) (hq : (k.ot == a) = true) (w : World) (m0 : w.cell? ⟨mb, mo, none⟩ = some (.int .u8 3)) (m1 : w.cell? ⟨mb, mo + 1, none⟩ = some (.int .u8 x1)) (m2 : w.cell? ⟨mb, mo + 2, none⟩ = some (.int .u8 x2)) (m3 : w.cell? ⟨mb, mo + 3, none⟩ = some (.int .u8 x3)) (m4 : w.cell? ⟨mb, mo + 4, none⟩ = some (.int .u8 x4)) : Calls Try.prog 30 #[.agg k.cells, .slice (some ⟨mb, mo, none⟩) 5 cap, .int .i64 now] w (Ret3 w (clK k now) [msgOf 3 k.id k.ot] 0) := by
  have hc0' : (c != 0) = false := by simp only [bne, hc0]; rfl
  have HA := Lib.hid hA
  have HC2 := Lib.hid hC
  clear hA hC
  have hmb : mb < w.heap.size := World.block_lt_of_cell? w _ m0
  obtain ⟨n0, n1⟩ := tin_in ht
  obtain ⟨i0, i1, j0, j1⟩ := (chk_val h).toIn
  obtain ⟨q0, q1⟩ := fr_rows2 w (.cells k.cells 27) (.cells #[.int .u8 0, .int .u8 0, .int .u8 0, .int .u8 0, .int .u8 0, .int .u8 0, .int .u8 0, .int .u8 0, .int .u8 0, .int .u8 0, .int .u8 0, .int .u8 0, .int .u8 0, .int .i64 0, .int .i64 0, .int .i64 0, .int .i64 0] 27)
  have Q0 := Lib.hid q0
  have Q1 := Lib.hid q1
  clear q0 q1
  have HI := Lib.hid (link_info2 k)
  have HZ := Lib.hid link_infoZ
  have HC := Lib.hid (link_info2 (clK k now))
  have hbv : beforeI k now = 0 := by simp only [beforeI, h, ht]; rfl
  go_enter Try.func30, Try.ntmps30
  go_wp2_with (with_reducible refine wpList_load_row rfl 27 (.tmp 3) rfl (w.heap.size) rfl 27 (k).cells (0, 0) _ Q0.out Try.underlying27 rfl HI.out ?_)
  refine (before_any k hB hz now _).mono ?_
  rintro e w1 ⟨rfl, hb⟩
  have P0 := Lib.hid (row_below hb Q0.out)
  have P1 := Lib.hid (row_below hb Q1.out)
  have HB := Lib.hid (below_step (below_more (below_more (Below.refl w.heap.size w) (.cells k.cells 27)) (.cells #[.int .u8 0, .int .u8 0, .int .u8 0, .int .u8 0, .int .u8 0, .int .u8 0, .int .u8 0, .int .u8 0, .int .u8 0, .int .u8 0, .int .u8 0, .int .u8 0, .int .u8 0, .int .i64 0, .int .i64 0, .int .i64 0, .int .i64 0] 27)) hb)
  have M0 := Lib.hid (below_kept hb (below_kept ((Below.refl _ _).alloc (Nat.le_refl _) _) (below_kept ((Below.refl _ _).alloc (Nat.le_refl _) _) m0)))
  have M1 := Lib.hid (below_kept hb (below_kept ((Below.refl _ _).alloc (Nat.le_refl _) _) (below_kept ((Below.refl _ _).alloc (Nat.le_refl _) _) m1)))
  have M2 := Lib.hid (below_kept hb (below_kept ((Below.refl _ _).alloc (Nat.le_refl _) _) (below_kept ((Below.refl _ _).alloc (Nat.le_refl _) _) m2)))
  have M3 := Lib.hid (below_kept hb (below_kept ((Below.refl _ _).alloc (Nat.le_refl _) _) (below_kept ((Below.refl _ _).alloc (Nat.le_refl _) _) m3)))
  have M4 := Lib.hid (below_kept hb (below_kept ((Below.refl _ _).alloc (Nat.le_refl _) _) (below_kept ((Below.refl _ _).alloc (Nat.le_refl _) _) m4)))
  have m0w : w1.cell? ⟨mb, mo, none⟩ = some (.int .u8 3) := M0.out
  have m1w : w1.cell? ⟨mb, mo + 1, none⟩ = some (.int .u8 x1) := M1.out
  have m2w : w1.cell? ⟨mb, mo + 2, none⟩ = some (.int .u8 x2) := M2.out
  have m3w : w1.cell? ⟨mb, mo + 3, none⟩ = some (.int .u8 x3) := M3.out
  have m4w : w1.cell? ⟨mb, mo + 4, none⟩ = some (.int .u8 x4) := M4.out
  have myw : mb < w1.heap.size := World.block_lt_of_cell? _ _ m0w
  clear hb Q0 Q1 hmb m0 m1 m2 m3 m4
  simp only [hbv]
  go_wp2_with fail
  go_region
  simp only [HA.out, HC2.out]
  have P0 := Lib.hid (row_drew P0.out)
  have P1 := Lib.hid (row_drew P1.out)
  have HB := Lib.hid HB.out.drew
  have m0w : w1.drew.cell? ⟨mb, mo, none⟩ = some (.int .u8 3) := M0.out
  have myw : mb < w1.drew.heap.size := World.block_lt_of_cell? _ _ m0w
  clear m1w m2w m3w m4w M0 M1 M2 M3 M4
  generalize hgen : w1.drew = w4 at *
  clear hgen
  have s12 : w4.cell? ⟨w.heap.size, 12, none⟩ = some (.int .u8 k.st) := (cell_of_row _ _ _ _ _ _ P0.out).trans (lk_st k)
  have s13 : w4.cell? ⟨w.heap.size, 13, none⟩ = some (.int .i64 k.id) := (cell_of_row _ _ _ _ _ _ P0.out).trans rfl
  have s14 : w4.cell? ⟨w.heap.size, 14, none⟩ = some (.int .i64 k.ot) := (cell_of_row _ _ _ _ _ _ P0.out).trans rfl
  go_wp2_with (with_reducible refine wpList_load_row rfl 27 (.tmp 3) rfl (w.heap.size) rfl 27 (k).cells (0, 0) _ P0.out Try.underlying27 rfl HI.out ?_)
  refine (ref_shut k i0 i1 j0 j1 now n0 n1 _).mono ?_
  rintro e w3 ⟨v, rfl, hO, hb⟩
  have P5 := Lib.hid (row_below hb P1.out)
  have HB3 := Lib.hid (below_step HB.out hb)
  have hz2 : w.heap.size + 1 < w4.heap.size := row_lt P1.out
  have hz3 : w.heap.size + 1 < w3.heap.size := row_lt P5.out
  have HO := Lib.hid hO
  clear hb hO s12 s13 s14 m0w myw
  have P6 := Lib.hid (row_alloc (o := .cells (clK k now).cells 27) P5.out)
  have P7 := Lib.hid (heap_alloc_new w3 (.cells (clK k now).cells 27))
  go_wp2_with (first
    | ((with_reducible refine wpList_store_rowTo rfl 27 (.tmp 15) (.tmp 152) rfl rfl w3.heap.size (clK k now).cells ?_ ?_ 27 #[.int .u8 0, .int .u8 0, .int .u8 0, .int .u8 0, .int .u8 0, .int .u8 0, .int .u8 0, .int .u8 0, .int .u8 0, .int .u8 0, .int .u8 0, .int .u8 0, .int .u8 0, .int .i64 0, .int .i64 0, .int .i64 0, .int .i64 0] (heap_alloc_new _ _) HC.out rfl (one_cells _) ?_); (as_aux_lemma => kernel_rfl); (as_aux_lemma => kernel_rfl); rw [setRow_alloc])
    | (with_reducible refine wpList_load_row rfl 27 (.tmp 15) rfl (w3.heap.size) rfl 27 (clK k now).cells (0, 0) _ P7.out Try.underlying27 rfl HC.out ?_)
    | ((with_reducible refine wpList_store_rowTo rfl 27 (.tmp 6) (.tmp 154) rfl rfl (w.heap.size + 1) (clK k now).cells ?_ ?_ 27 #[.int .u8 0, .int .u8 0, .int .u8 0, .int .u8 0, .int .u8 0, .int .u8 0, .int .u8 0, .int .u8 0, .int .u8 0, .int .u8 0, .int .u8 0, .int .u8 0, .int .u8 0, .int .i64 0, .int .i64 0, .int .i64 0, .int .i64 0] P6.out HC.out rfl (one_cells _) ?_); (as_aux_lemma => kernel_rfl); (as_aux_lemma => kernel_rfl)))
  refine bodyPost_ret (results_row3 rfl _ _ (w.heap.size + 1) 27 (clK k now).cells (0, 0) _ rfl (setRow_heap _ _ _ _ _ _ P6.out) Try.underlying27 rfl HC.out) rfl ?_
  exact ⟨_, rfl, ((HO.out.below ((Below.refl _ _).alloc (Nat.le_refl _) _)).setRow _ hz2 _).mono HB.out.size, below_setRow' (below_more HB3.out _) (Nat.le_succ _) _⟩
set_option maxRecDepth 100000 in
set_option maxHeartbeats 4000000 in
theorem rhandle_end10 (k : Lk) (hB : k.By) (hz : 0 ≤ k.st) (now : Int) (h : k.chk = 0) (ht : tinB now = true) (mb mo cap : Nat) (x1 x2 x3 x4 : Int) (hx1 : 0 ≤ x1 ∧ x1 ≤ 255) (hx2 : 0 ≤ x2 ∧ x2 ≤ 255) (hx3 : 0 ≤ x3 ∧ x3 ≤ 255) (hx4 : 0 ≤ x4 ∧ x4 ≤ 255) (hcap : 5 ≤ cap) (a c : Int) (hA : x1 + 256 * x2 = a) (hC : x3 + 256 * x4 = c) (ha : (a == 0) = false) (hs : k.st = 5) (hc0 : (c == 0) = false) (hc : (c == k.id) = true) (ho : (k.ot == 0) = true) (w : World) (m0 : w.cell? ⟨mb, mo, none⟩ = some (.int .u8 3)) (m1 : w.cell? ⟨mb, mo + 1, none⟩ = some (.int .u8 x1)) (m2 : w.cell? ⟨mb, mo + 2, none⟩ = some (.int .u8 x2)) (m3 : w.cell? ⟨mb, mo + 3, none⟩ = some (.int .u8 x3)) (m4 : w.cell? ⟨mb, mo + 4, none⟩ = some (.int .u8 x4)) : Calls Try.prog 30 #[.agg k.cells, .slice (some ⟨mb, mo, none⟩) 5 cap, .int .i64 now] w (Ret3 w (endK k) [] 0) := by
  have hc0' : (c != 0) = true := by simp only [bne, hc0]; rfl
  have hc' : (c != k.id) = false := by simp only [bne, hc]; rfl
  have HA := Lib.hid hA
  have HC2 := Lib.hid hC
  clear hA hC
  have hmb : mb < w.heap.size := World.block_lt_of_cell? w _ m0
  obtain ⟨n0, n1⟩ := tin_in ht
  obtain ⟨i0, i1, j0, j1⟩ := (chk_val h).toIn
  obtain ⟨q0, q1⟩ := fr_rows2 w (.cells k.cells 27) (.cells #[.int .u8 0, .int .u8 0, .int .u8 0, .int .u8 0, .int .u8 0, .int .u8 0, .int .u8 0, .int .u8 0, .int .u8 0, .int .u8 0, .int .u8 0, .int .u8 0, .int .u8 0, .int .i64 0, .int .i64 0, .int .i64 0, .int .i64 0] 27)
  have Q0 := Lib.hid q0
  have Q1 := Lib.hid q1
  clear q0 q1
  have HI := Lib.hid (link_info2 k)
  have HZ := Lib.hid link_infoZ
  have HC := Lib.hid (link_info2 (endK k))
  have hbv : beforeI k now = 0 := by simp only [beforeI, h, ht]; rfl
  go_enter Try.func30, Try.ntmps30
  go_wp2_with (with_reducible refine wpList_load_row rfl 27 (.tmp 3) rfl (w.heap.size) rfl 27 (k).cells (0, 0) _ Q0.out Try.underlying27 rfl HI.out ?_)
  refine (before_any k hB hz now _).mono ?_
  rintro e w1 ⟨rfl, hb⟩
  have P0 := Lib.hid (row_below hb Q0.out)
  have P1 := Lib.hid (row_below hb Q1.out)
  have HB := Lib.hid (below_step (below_more (below_more (Below.refl w.heap.size w) (.cells k.cells 27)) (.cells #[.int .u8 0, .int .u8 0, .int .u8 0, .int .u8 0, .int .u8 0, .int .u8 0, .int .u8 0, .int .u8 0, .int .u8 0, .int .u8 0, .int .u8 0, .int .u8 0, .int .u8 0, .int .i64 0, .int .i64 0, .int .i64 0, .int .i64 0] 27)) hb)
  have M0 := Lib.hid (below_kept hb (below_kept ((Below.refl _ _).alloc (Nat.le_refl _) _) (below_kept ((Below.refl _ _).alloc (Nat.le_refl _) _) m0)))
  have M1 := Lib.hid (below_kept hb (below_kept ((Below.refl _ _).alloc (Nat.le_refl _) _) (below_kept ((Below.refl _ _).alloc (Nat.le_refl _) _) m1)))
  have M2 := Lib.hid (below_kept hb (below_kept ((Below.refl _ _).alloc (Nat.le_refl _) _) (below_kept ((Below.refl _ _).alloc (Nat.le_refl _) _) m2)))
  have M3 := Lib.hid (below_kept hb (below_kept ((Below.refl _ _).alloc (Nat.le_refl _) _) (below_kept ((Below.refl _ _).alloc (Nat.le_refl _) _) m3)))
  have M4 := Lib.hid (below_kept hb (below_kept ((Below.refl _ _).alloc (Nat.le_refl _) _) (below_kept ((Below.refl _ _).alloc (Nat.le_refl _) _) m4)))
  have m0w : w1.cell? ⟨mb, mo, none⟩ = some (.int .u8 3) := M0.out
  have m1w : w1.cell? ⟨mb, mo + 1, none⟩ = some (.int .u8 x1) := M1.out
  have m2w : w1.cell? ⟨mb, mo + 2, none⟩ = some (.int .u8 x2) := M2.out
  have m3w : w1.cell? ⟨mb, mo + 3, none⟩ = some (.int .u8 x3) := M3.out
  have m4w : w1.cell? ⟨mb, mo + 4, none⟩ = some (.int .u8 x4) := M4.out
  have myw : mb < w1.heap.size := World.block_lt_of_cell? _ _ m0w
  clear hb Q0 Q1 hmb m0 m1 m2 m3 m4
  simp only [hbv]
  go_wp2_with fail
  go_region
  simp only [HA.out, HC2.out]
  have P0 := Lib.hid (row_drew P0.out)
  have P1 := Lib.hid (row_drew P1.out)
  have HB := Lib.hid HB.out.drew
  have m0w : w1.drew.cell? ⟨mb, mo, none⟩ = some (.int .u8 3) := M0.out
  have myw : mb < w1.drew.heap.size := World.block_lt_of_cell? _ _ m0w
  clear m1w m2w m3w m4w M0 M1 M2 M3 M4
  generalize hgen : w1.drew = w4 at *
  clear hgen
  have s12 : w4.cell? ⟨w.heap.size, 12, none⟩ = some (.int .u8 k.st) := (cell_of_row _ _ _ _ _ _ P0.out).trans (lk_st k)
  have s13 : w4.cell? ⟨w.heap.size, 13, none⟩ = some (.int .i64 k.id) := (cell_of_row _ _ _ _ _ _ P0.out).trans rfl
  have s14 : w4.cell? ⟨w.heap.size, 14, none⟩ = some (.int .i64 k.ot) := (cell_of_row _ _ _ _ _ _ P0.out).trans rfl
  rw [hs] at s12
  go_wp2_with (with_reducible refine wpList_load_row rfl 27 (.tmp 3) rfl (w.heap.size) rfl 27 (k).cells (0, 0) _ P0.out Try.underlying27 rfl HI.out ?_)
  refine (ref_ended k i0 i1 _).mono ?_
  rintro e w3 ⟨rfl, hb⟩
  have P5 := Lib.hid (row_below hb P1.out)
  have HB3 := Lib.hid (below_step HB.out hb)
  clear hb s12 s13 s14 m0w myw
  go_wp2_with ((with_reducible refine wpList_store_rowTo rfl 27 (.tmp 6) (.tmp 147) rfl rfl (w.heap.size + 1) (endK k).cells ?_ ?_ 27 #[.int .u8 0, .int .u8 0, .int .u8 0, .int .u8 0, .int .u8 0, .int .u8 0, .int .u8 0, .int .u8 0, .int .u8 0, .int .u8 0, .int .u8 0, .int .u8 0, .int .u8 0, .int .i64 0, .int .i64 0, .int .i64 0, .int .i64 0] P5.out HC.out rfl (one_cells _) ?_); (as_aux_lemma => kernel_rfl); (as_aux_lemma => kernel_rfl))
  refine bodyPost_ret (results_row3 rfl _ _ (w.heap.size + 1) 27 (endK k).cells (0, 0) _ rfl (setRow_heap _ _ _ _ _ _ P5.out) Try.underlying27 rfl HC.out) rfl ?_
  exact ⟨_, rfl, outAt_nil _ _, below_setRow' HB3.out (Nat.le_succ _) _⟩
set_option maxRecDepth 100000 in
set_option maxHeartbeats 4000000 in
theorem rhandle_shut10 (k : Lk) (hB : k.By) (hz : 0 ≤ k.st) (now : Int) (h : k.chk = 0) (ht : tinB now = true) (mb mo cap : Nat) (x1 x2 x3 x4 : Int) (hx1 : 0 ≤ x1 ∧ x1 ≤ 255) (hx2 : 0 ≤ x2 ∧ x2 ≤ 255) (hx3 : 0 ≤ x3 ∧ x3 ≤ 255) (hx4 : 0 ≤ x4 ∧ x4 ≤ 255) (hcap : 5 ≤ cap) (a c : Int) (hA : x1 + 256 * x2 = a) (hC : x3 + 256 * x4 = c) (ha : (a == 0) = false) (hs0 : (k.st == 0) = false) (hs5 : (k.st == 5) = false) (hc0 : (c == 0) = false) (hc : (c == k.id) = true) (ho : (k.ot == 0) = true) (w : World) (m0 : w.cell? ⟨mb, mo, none⟩ = some (.int .u8 3)) (m1 : w.cell? ⟨mb, mo + 1, none⟩ = some (.int .u8 x1)) (m2 : w.cell? ⟨mb, mo + 2, none⟩ = some (.int .u8 x2)) (m3 : w.cell? ⟨mb, mo + 3, none⟩ = some (.int .u8 x3)) (m4 : w.cell? ⟨mb, mo + 4, none⟩ = some (.int .u8 x4)) : Calls Try.prog 30 #[.agg k.cells, .slice (some ⟨mb, mo, none⟩) 5 cap, .int .i64 now] w (Ret3 w (clK k now) [msgOf 3 k.id k.ot] 0) := by
  have hc0' : (c != 0) = true := by simp only [bne, hc0]; rfl
  have hc' : (c != k.id) = false := by simp only [bne, hc]; rfl
  have HA := Lib.hid hA
  have HC2 := Lib.hid hC
  clear hA hC
  have hmb : mb < w.heap.size := World.block_lt_of_cell? w _ m0
  obtain ⟨n0, n1⟩ := tin_in ht
  obtain ⟨i0, i1, j0, j1⟩ := (chk_val h).toIn
  obtain ⟨q0, q1⟩ := fr_rows2 w (.cells k.cells 27) (.cells #[.int .u8 0, .int .u8 0, .int .u8 0, .int .u8 0, .int .u8 0, .int .u8 0, .int .u8 0, .int .u8 0, .int .u8 0, .int .u8 0, .int .u8 0, .int .u8 0, .int .u8 0, .int .i64 0, .int .i64 0, .int .i64 0, .int .i64 0] 27)
  have Q0 := Lib.hid q0
  have Q1 := Lib.hid q1
  clear q0 q1
  have HI := Lib.hid (link_info2 k)
  have HZ := Lib.hid link_infoZ
  have HC := Lib.hid (link_info2 (clK k now))
  have hbv : beforeI k now = 0 := by simp only [beforeI, h, ht]; rfl
  go_enter Try.func30, Try.ntmps30
  go_wp2_with (with_reducible refine wpList_load_row rfl 27 (.tmp 3) rfl (w.heap.size) rfl 27 (k).cells (0, 0) _ Q0.out Try.underlying27 rfl HI.out ?_)
  refine (before_any k hB hz now _).mono ?_
  rintro e w1 ⟨rfl, hb⟩
  have P0 := Lib.hid (row_below hb Q0.out)
  have P1 := Lib.hid (row_below hb Q1.out)
  have HB := Lib.hid (below_step (below_more (below_more (Below.refl w.heap.size w) (.cells k.cells 27)) (.cells #[.int .u8 0, .int .u8 0, .int .u8 0, .int .u8 0, .int .u8 0, .int .u8 0, .int .u8 0, .int .u8 0, .int .u8 0, .int .u8 0, .int .u8 0, .int .u8 0, .int .u8 0, .int .i64 0, .int .i64 0, .int .i64 0, .int .i64 0] 27)) hb)
  have M0 := Lib.hid (below_kept hb (below_kept ((Below.refl _ _).alloc (Nat.le_refl _) _) (below_kept ((Below.refl _ _).alloc (Nat.le_refl _) _) m0)))
  have M1 := Lib.hid (below_kept hb (below_kept ((Below.refl _ _).alloc (Nat.le_refl _) _) (below_kept ((Below.refl _ _).alloc (Nat.le_refl _) _) m1)))
  have M2 := Lib.hid (below_kept hb (below_kept ((Below.refl _ _).alloc (Nat.le_refl _) _) (below_kept ((Below.refl _ _).alloc (Nat.le_refl _) _) m2)))
  have M3 := Lib.hid (below_kept hb (below_kept ((Below.refl _ _).alloc (Nat.le_refl _) _) (below_kept ((Below.refl _ _).alloc (Nat.le_refl _) _) m3)))
  have M4 := Lib.hid (below_kept hb (below_kept ((Below.refl _ _).alloc (Nat.le_refl _) _) (below_kept ((Below.refl _ _).alloc (Nat.le_refl _) _) m4)))
  have m0w : w1.cell? ⟨mb, mo, none⟩ = some (.int .u8 3) := M0.out
  have m1w : w1.cell? ⟨mb, mo + 1, none⟩ = some (.int .u8 x1) := M1.out
  have m2w : w1.cell? ⟨mb, mo + 2, none⟩ = some (.int .u8 x2) := M2.out
  have m3w : w1.cell? ⟨mb, mo + 3, none⟩ = some (.int .u8 x3) := M3.out
  have m4w : w1.cell? ⟨mb, mo + 4, none⟩ = some (.int .u8 x4) := M4.out
  have myw : mb < w1.heap.size := World.block_lt_of_cell? _ _ m0w
  clear hb Q0 Q1 hmb m0 m1 m2 m3 m4
  simp only [hbv]
  go_wp2_with fail
  go_region
  simp only [HA.out, HC2.out]
  have P0 := Lib.hid (row_drew P0.out)
  have P1 := Lib.hid (row_drew P1.out)
  have HB := Lib.hid HB.out.drew
  have m0w : w1.drew.cell? ⟨mb, mo, none⟩ = some (.int .u8 3) := M0.out
  have myw : mb < w1.drew.heap.size := World.block_lt_of_cell? _ _ m0w
  clear m1w m2w m3w m4w M0 M1 M2 M3 M4
  generalize hgen : w1.drew = w4 at *
  clear hgen
  have s12 : w4.cell? ⟨w.heap.size, 12, none⟩ = some (.int .u8 k.st) := (cell_of_row _ _ _ _ _ _ P0.out).trans (lk_st k)
  have s13 : w4.cell? ⟨w.heap.size, 13, none⟩ = some (.int .i64 k.id) := (cell_of_row _ _ _ _ _ _ P0.out).trans rfl
  have s14 : w4.cell? ⟨w.heap.size, 14, none⟩ = some (.int .i64 k.ot) := (cell_of_row _ _ _ _ _ _ P0.out).trans rfl
  go_wp2_with (with_reducible refine wpList_load_row rfl 27 (.tmp 3) rfl (w.heap.size) rfl 27 (k).cells (0, 0) _ P0.out Try.underlying27 rfl HI.out ?_)
  refine (ref_shut k i0 i1 j0 j1 now n0 n1 _).mono ?_
  rintro e w3 ⟨v, rfl, hO, hb⟩
  have P5 := Lib.hid (row_below hb P1.out)
  have HB3 := Lib.hid (below_step HB.out hb)
  have hz2 : w.heap.size + 1 < w4.heap.size := row_lt P1.out
  have hz3 : w.heap.size + 1 < w3.heap.size := row_lt P5.out
  have HO := Lib.hid hO
  clear hb hO s12 s13 s14 m0w myw
  have P6 := Lib.hid (row_alloc (o := .cells (clK k now).cells 27) P5.out)
  have P7 := Lib.hid (heap_alloc_new w3 (.cells (clK k now).cells 27))
  go_wp2_with (first
    | ((with_reducible refine wpList_store_rowTo rfl 27 (.tmp 15) (.tmp 152) rfl rfl w3.heap.size (clK k now).cells ?_ ?_ 27 #[.int .u8 0, .int .u8 0, .int .u8 0, .int .u8 0, .int .u8 0, .int .u8 0, .int .u8 0, .int .u8 0, .int .u8 0, .int .u8 0, .int .u8 0, .int .u8 0, .int .u8 0, .int .i64 0, .int .i64 0, .int .i64 0, .int .i64 0] (heap_alloc_new _ _) HC.out rfl (one_cells _) ?_); (as_aux_lemma => kernel_rfl); (as_aux_lemma => kernel_rfl); rw [setRow_alloc])
    | (with_reducible refine wpList_load_row rfl 27 (.tmp 15) rfl (w3.heap.size) rfl 27 (clK k now).cells (0, 0) _ P7.out Try.underlying27 rfl HC.out ?_)
    | ((with_reducible refine wpList_store_rowTo rfl 27 (.tmp 6) (.tmp 154) rfl rfl (w.heap.size + 1) (clK k now).cells ?_ ?_ 27 #[.int .u8 0, .int .u8 0, .int .u8 0, .int .u8 0, .int .u8 0, .int .u8 0, .int .u8 0, .int .u8 0, .int .u8 0, .int .u8 0, .int .u8 0, .int .u8 0, .int .u8 0, .int .i64 0, .int .i64 0, .int .i64 0, .int .i64 0] P6.out HC.out rfl (one_cells _) ?_); (as_aux_lemma => kernel_rfl); (as_aux_lemma => kernel_rfl)))
  refine bodyPost_ret (results_row3 rfl _ _ (w.heap.size + 1) 27 (clK k now).cells (0, 0) _ rfl (setRow_heap _ _ _ _ _ _ P6.out) Try.underlying27 rfl HC.out) rfl ?_
  exact ⟨_, rfl, ((HO.out.below ((Below.refl _ _).alloc (Nat.le_refl _) _)).setRow _ hz2 _).mono HB.out.size, below_setRow' (below_more HB3.out _) (Nat.le_succ _) _⟩
set_option maxRecDepth 100000 in
set_option maxHeartbeats 4000000 in
theorem rhandle_end11 (k : Lk) (hB : k.By) (hz : 0 ≤ k.st) (now : Int) (h : k.chk = 0) (ht : tinB now = true) (mb mo cap : Nat) (x1 x2 x3 x4 : Int) (hx1 : 0 ≤ x1 ∧ x1 ≤ 255) (hx2 : 0 ≤ x2 ∧ x2 ≤ 255) (hx3 : 0 ≤ x3 ∧ x3 ≤ 255) (hx4 : 0 ≤ x4 ∧ x4 ≤ 255) (hcap : 5 ≤ cap) (a c : Int) (hA : x1 + 256 * x2 = a) (hC : x3 + 256 * x4 = c) (ha : (a == 0) = false) (hs : k.st = 5) (hc0 : (c == 0) = false) (hc : (c == k.id) = true) (ho : (k.ot == 0) = false) (hq : (k.ot == a) = true) (w : World) (m0 : w.cell? ⟨mb, mo, none⟩ = some (.int .u8 3)) (m1 : w.cell? ⟨mb, mo + 1, none⟩ = some (.int .u8 x1)) (m2 : w.cell? ⟨mb, mo + 2, none⟩ = some (.int .u8 x2)) (m3 : w.cell? ⟨mb, mo + 3, none⟩ = some (.int .u8 x3)) (m4 : w.cell? ⟨mb, mo + 4, none⟩ = some (.int .u8 x4)) : Calls Try.prog 30 #[.agg k.cells, .slice (some ⟨mb, mo, none⟩) 5 cap, .int .i64 now] w (Ret3 w (endK k) [] 0) := by
  have hc0' : (c != 0) = true := by simp only [bne, hc0]; rfl
  have hc' : (c != k.id) = false := by simp only [bne, hc]; rfl
  have HA := Lib.hid hA
  have HC2 := Lib.hid hC
  clear hA hC
  have hmb : mb < w.heap.size := World.block_lt_of_cell? w _ m0
  obtain ⟨n0, n1⟩ := tin_in ht
  obtain ⟨i0, i1, j0, j1⟩ := (chk_val h).toIn
  obtain ⟨q0, q1⟩ := fr_rows2 w (.cells k.cells 27) (.cells #[.int .u8 0, .int .u8 0, .int .u8 0, .int .u8 0, .int .u8 0, .int .u8 0, .int .u8 0, .int .u8 0, .int .u8 0, .int .u8 0, .int .u8 0, .int .u8 0, .int .u8 0, .int .i64 0, .int .i64 0, .int .i64 0, .int .i64 0] 27)
  have Q0 := Lib.hid q0
  have Q1 := Lib.hid q1
  clear q0 q1
  have HI := Lib.hid (link_info2 k)
  have HZ := Lib.hid link_infoZ
  have HC := Lib.hid (link_info2 (endK k))
  have hbv : beforeI k now = 0 := by simp only [beforeI, h, ht]; rfl
  go_enter Try.func30, Try.ntmps30
  go_wp2_with (with_reducible refine wpList_load_row rfl 27 (.tmp 3) rfl (w.heap.size) rfl 27 (k).cells (0, 0) _ Q0.out Try.underlying27 rfl HI.out ?_)
  refine (before_any k hB hz now _).mono ?_
  rintro e w1 ⟨rfl, hb⟩
  have P0 := Lib.hid (row_below hb Q0.out)
  have P1 := Lib.hid (row_below hb Q1.out)
  have HB := Lib.hid (below_step (below_more (below_more (Below.refl w.heap.size w) (.cells k.cells 27)) (.cells #[.int .u8 0, .int .u8 0, .int .u8 0, .int .u8 0, .int .u8 0, .int .u8 0, .int .u8 0, .int .u8 0, .int .u8 0, .int .u8 0, .int .u8 0, .int .u8 0, .int .u8 0, .int .i64 0, .int .i64 0, .int .i64 0, .int .i64 0] 27)) hb)
  have M0 := Lib.hid (below_kept hb (below_kept ((Below.refl _ _).alloc (Nat.le_refl _) _) (below_kept ((Below.refl _ _).alloc (Nat.le_refl _) _) m0)))
  have M1 := Lib.hid (below_kept hb (below_kept ((Below.refl _ _).alloc (Nat.le_refl _) _) (below_kept ((Below.refl _ _).alloc (Nat.le_refl _) _) m1)))
  have M2 := Lib.hid (below_kept hb (below_kept ((Below.refl _ _).alloc (Nat.le_refl _) _) (below_kept ((Below.refl _ _).alloc (Nat.le_refl _) _) m2)))
  have M3 := Lib.hid (below_kept hb (below_kept ((Below.refl _ _).alloc (Nat.le_refl _) _) (below_kept ((Below.refl _ _).alloc (Nat.le_refl _) _) m3)))
  have M4 := Lib.hid (below_kept hb (below_kept ((Below.refl _ _).alloc (Nat.le_refl _) _) (below_kept ((Below.refl _ _).alloc (Nat.le_refl _) _) m4)))
  have m0w : w1.cell? ⟨mb, mo, none⟩ = some (.int .u8 3) := M0.out
  have m1w : w1.cell? ⟨mb, mo + 1, none⟩ = some (.int .u8 x1) := M1.out
  have m2w : w1.cell? ⟨mb, mo + 2, none⟩ = some (.int .u8 x2) := M2.out
  have m3w : w1.cell? ⟨mb, mo + 3, none⟩ = some (.int .u8 x3) := M3.out
  have m4w : w1.cell? ⟨mb, mo + 4, none⟩ = some (.int .u8 x4) := M4.out
  have myw : mb < w1.heap.size := World.block_lt_of_cell? _ _ m0w
  clear hb Q0 Q1 hmb m0 m1 m2 m3 m4
  simp only [hbv]
  go_wp2_with fail
  go_region
  simp only [HA.out, HC2.out]
  have P0 := Lib.hid (row_drew P0.out)
  have P1 := Lib.hid (row_drew P1.out)
  have HB := Lib.hid HB.out.drew
  have m0w : w1.drew.cell? ⟨mb, mo, none⟩ = some (.int .u8 3) := M0.out
  have myw : mb < w1.drew.heap.size := World.block_lt_of_cell? _ _ m0w
  clear m1w m2w m3w m4w M0 M1 M2 M3 M4
  generalize hgen : w1.drew = w4 at *
  clear hgen
  have s12 : w4.cell? ⟨w.heap.size, 12, none⟩ = some (.int .u8 k.st) := (cell_of_row _ _ _ _ _ _ P0.out).trans (lk_st k)
  have s13 : w4.cell? ⟨w.heap.size, 13, none⟩ = some (.int .i64 k.id) := (cell_of_row _ _ _ _ _ _ P0.out).trans rfl
  have s14 : w4.cell? ⟨w.heap.size, 14, none⟩ = some (.int .i64 k.ot) := (cell_of_row _ _ _ _ _ _ P0.out).trans rfl
  rw [hs] at s12
  go_wp2_with (with_reducible refine wpList_load_row rfl 27 (.tmp 3) rfl (w.heap.size) rfl 27 (k).cells (0, 0) _ P0.out Try.underlying27 rfl HI.out ?_)
  refine (ref_ended k i0 i1 _).mono ?_
  rintro e w3 ⟨rfl, hb⟩
  have P5 := Lib.hid (row_below hb P1.out)
  have HB3 := Lib.hid (below_step HB.out hb)
  clear hb s12 s13 s14 m0w myw
  go_wp2_with ((with_reducible refine wpList_store_rowTo rfl 27 (.tmp 6) (.tmp 147) rfl rfl (w.heap.size + 1) (endK k).cells ?_ ?_ 27 #[.int .u8 0, .int .u8 0, .int .u8 0, .int .u8 0, .int .u8 0, .int .u8 0, .int .u8 0, .int .u8 0, .int .u8 0, .int .u8 0, .int .u8 0, .int .u8 0, .int .u8 0, .int .i64 0, .int .i64 0, .int .i64 0, .int .i64 0] P5.out HC.out rfl (one_cells _) ?_); (as_aux_lemma => kernel_rfl); (as_aux_lemma => kernel_rfl))
  refine bodyPost_ret (results_row3 rfl _ _ (w.heap.size + 1) 27 (endK k).cells (0, 0) _ rfl (setRow_heap _ _ _ _ _ _ P5.out) Try.underlying27 rfl HC.out) rfl ?_
  exact ⟨_, rfl, outAt_nil _ _, below_setRow' HB3.out (Nat.le_succ _) _⟩
set_option maxRecDepth 100000 in
set_option maxHeartbeats 4000000 in
theorem rhandle_shut11 (k : Lk) (hB : k.By) (hz : 0 ≤ k.st) (now : Int) (h : k.chk = 0) (ht : tinB now = true) (mb mo cap : Nat) (x1 x2 x3 x4 : Int) (hx1 : 0 ≤ x1 ∧ x1 ≤ 255) (hx2 : 0 ≤ x2 ∧ x2 ≤ 255) (hx3 : 0 ≤ x3 ∧ x3 ≤ 255) (hx4 : 0 ≤ x4 ∧ x4 ≤ 255) (hcap : 5 ≤ cap) (a c : Int) (hA : x1 + 256 * x2 = a) (hC : x3 + 256 * x4 = c) (ha : (a == 0) = false) (hs0 : (k.st == 0) = false) (hs5 : (k.st == 5) = false) (hc0 : (c == 0) = false) (hc : (c == k.id) = true) (ho : (k.ot == 0) = false) (hq : (k.ot == a) = true) (w : World) (m0 : w.cell? ⟨mb, mo, none⟩ = some (.int .u8 3)) (m1 : w.cell? ⟨mb, mo + 1, none⟩ = some (.int .u8 x1)) (m2 : w.cell? ⟨mb, mo + 2, none⟩ = some (.int .u8 x2)) (m3 : w.cell? ⟨mb, mo + 3, none⟩ = some (.int .u8 x3)) (m4 : w.cell? ⟨mb, mo + 4, none⟩ = some (.int .u8 x4)) : Calls Try.prog 30 #[.agg k.cells, .slice (some ⟨mb, mo, none⟩) 5 cap, .int .i64 now] w (Ret3 w (clK k now) [msgOf 3 k.id k.ot] 0) := by
  have hc0' : (c != 0) = true := by simp only [bne, hc0]; rfl
  have hc' : (c != k.id) = false := by simp only [bne, hc]; rfl
  have HA := Lib.hid hA
  have HC2 := Lib.hid hC
  clear hA hC
  have hmb : mb < w.heap.size := World.block_lt_of_cell? w _ m0
  obtain ⟨n0, n1⟩ := tin_in ht
  obtain ⟨i0, i1, j0, j1⟩ := (chk_val h).toIn
  obtain ⟨q0, q1⟩ := fr_rows2 w (.cells k.cells 27) (.cells #[.int .u8 0, .int .u8 0, .int .u8 0, .int .u8 0, .int .u8 0, .int .u8 0, .int .u8 0, .int .u8 0, .int .u8 0, .int .u8 0, .int .u8 0, .int .u8 0, .int .u8 0, .int .i64 0, .int .i64 0, .int .i64 0, .int .i64 0] 27)
  have Q0 := Lib.hid q0
  have Q1 := Lib.hid q1
  clear q0 q1
  have HI := Lib.hid (link_info2 k)
  have HZ := Lib.hid link_infoZ
  have HC := Lib.hid (link_info2 (clK k now))
  have hbv : beforeI k now = 0 := by simp only [beforeI, h, ht]; rfl
  go_enter Try.func30, Try.ntmps30
  go_wp2_with (with_reducible refine wpList_load_row rfl 27 (.tmp 3) rfl (w.heap.size) rfl 27 (k).cells (0, 0) _ Q0.out Try.underlying27 rfl HI.out ?_)
  refine (before_any k hB hz now _).mono ?_
  rintro e w1 ⟨rfl, hb⟩
  have P0 := Lib.hid (row_below hb Q0.out)
  have P1 := Lib.hid (row_below hb Q1.out)
  have HB := Lib.hid (below_step (below_more (below_more (Below.refl w.heap.size w) (.cells k.cells 27)) (.cells #[.int .u8 0, .int .u8 0, .int .u8 0, .int .u8 0, .int .u8 0, .int .u8 0, .int .u8 0, .int .u8 0, .int .u8 0, .int .u8 0, .int .u8 0, .int .u8 0, .int .u8 0, .int .i64 0, .int .i64 0, .int .i64 0, .int .i64 0] 27)) hb)
  have M0 := Lib.hid (below_kept hb (below_kept ((Below.refl _ _).alloc (Nat.le_refl _) _) (below_kept ((Below.refl _ _).alloc (Nat.le_refl _) _) m0)))
  have M1 := Lib.hid (below_kept hb (below_kept ((Below.refl _ _).alloc (Nat.le_refl _) _) (below_kept ((Below.refl _ _).alloc (Nat.le_refl _) _) m1)))
  have M2 := Lib.hid (below_kept hb (below_kept ((Below.refl _ _).alloc (Nat.le_refl _) _) (below_kept ((Below.refl _ _).alloc (Nat.le_refl _) _) m2)))
  have M3 := Lib.hid (below_kept hb (below_kept ((Below.refl _ _).alloc (Nat.le_refl _) _) (below_kept ((Below.refl _ _).alloc (Nat.le_refl _) _) m3)))
  have M4 := Lib.hid (below_kept hb (below_kept ((Below.refl _ _).alloc (Nat.le_refl _) _) (below_kept ((Below.refl _ _).alloc (Nat.le_refl _) _) m4)))
  have m0w : w1.cell? ⟨mb, mo, none⟩ = some (.int .u8 3) := M0.out
  have m1w : w1.cell? ⟨mb, mo + 1, none⟩ = some (.int .u8 x1) := M1.out
  have m2w : w1.cell? ⟨mb, mo + 2, none⟩ = some (.int .u8 x2) := M2.out
  have m3w : w1.cell? ⟨mb, mo + 3, none⟩ = some (.int .u8 x3) := M3.out
  have m4w : w1.cell? ⟨mb, mo + 4, none⟩ = some (.int .u8 x4) := M4.out
  have myw : mb < w1.heap.size := World.block_lt_of_cell? _ _ m0w
  clear hb Q0 Q1 hmb m0 m1 m2 m3 m4
  simp only [hbv]
  go_wp2_with fail
  go_region
  simp only [HA.out, HC2.out]
  have P0 := Lib.hid (row_drew P0.out)
  have P1 := Lib.hid (row_drew P1.out)
  have HB := Lib.hid HB.out.drew
  have m0w : w1.drew.cell? ⟨mb, mo, none⟩ = some (.int .u8 3) := M0.out
  have myw : mb < w1.drew.heap.size := World.block_lt_of_cell? _ _ m0w
  clear m1w m2w m3w m4w M0 M1 M2 M3 M4
  generalize hgen : w1.drew = w4 at *
  clear hgen
  have s12 : w4.cell? ⟨w.heap.size, 12, none⟩ = some (.int .u8 k.st) := (cell_of_row _ _ _ _ _ _ P0.out).trans (lk_st k)
  have s13 : w4.cell? ⟨w.heap.size, 13, none⟩ = some (.int .i64 k.id) := (cell_of_row _ _ _ _ _ _ P0.out).trans rfl
  have s14 : w4.cell? ⟨w.heap.size, 14, none⟩ = some (.int .i64 k.ot) := (cell_of_row _ _ _ _ _ _ P0.out).trans rfl
  go_wp2_with (with_reducible refine wpList_load_row rfl 27 (.tmp 3) rfl (w.heap.size) rfl 27 (k).cells (0, 0) _ P0.out Try.underlying27 rfl HI.out ?_)
  refine (ref_shut k i0 i1 j0 j1 now n0 n1 _).mono ?_
  rintro e w3 ⟨v, rfl, hO, hb⟩
  have P5 := Lib.hid (row_below hb P1.out)
  have HB3 := Lib.hid (below_step HB.out hb)
  have hz2 : w.heap.size + 1 < w4.heap.size := row_lt P1.out
  have hz3 : w.heap.size + 1 < w3.heap.size := row_lt P5.out
  have HO := Lib.hid hO
  clear hb hO s12 s13 s14 m0w myw
  have P6 := Lib.hid (row_alloc (o := .cells (clK k now).cells 27) P5.out)
  have P7 := Lib.hid (heap_alloc_new w3 (.cells (clK k now).cells 27))
  go_wp2_with (first
    | ((with_reducible refine wpList_store_rowTo rfl 27 (.tmp 15) (.tmp 152) rfl rfl w3.heap.size (clK k now).cells ?_ ?_ 27 #[.int .u8 0, .int .u8 0, .int .u8 0, .int .u8 0, .int .u8 0, .int .u8 0, .int .u8 0, .int .u8 0, .int .u8 0, .int .u8 0, .int .u8 0, .int .u8 0, .int .u8 0, .int .i64 0, .int .i64 0, .int .i64 0, .int .i64 0] (heap_alloc_new _ _) HC.out rfl (one_cells _) ?_); (as_aux_lemma => kernel_rfl); (as_aux_lemma => kernel_rfl); rw [setRow_alloc])
    | (with_reducible refine wpList_load_row rfl 27 (.tmp 15) rfl (w3.heap.size) rfl 27 (clK k now).cells (0, 0) _ P7.out Try.underlying27 rfl HC.out ?_)
    | ((with_reducible refine wpList_store_rowTo rfl 27 (.tmp 6) (.tmp 154) rfl rfl (w.heap.size + 1) (clK k now).cells ?_ ?_ 27 #[.int .u8 0, .int .u8 0, .int .u8 0, .int .u8 0, .int .u8 0, .int .u8 0, .int .u8 0, .int .u8 0, .int .u8 0, .int .u8 0, .int .u8 0, .int .u8 0, .int .u8 0, .int .i64 0, .int .i64 0, .int .i64 0, .int .i64 0] P6.out HC.out rfl (one_cells _) ?_); (as_aux_lemma => kernel_rfl); (as_aux_lemma => kernel_rfl)))
  refine bodyPost_ret (results_row3 rfl _ _ (w.heap.size + 1) 27 (clK k now).cells (0, 0) _ rfl (setRow_heap _ _ _ _ _ _ P6.out) Try.underlying27 rfl HC.out) rfl ?_
  exact ⟨_, rfl, ((HO.out.below ((Below.refl _ _).alloc (Nat.le_refl _) _)).setRow _ hz2 _).mono HB.out.size, below_setRow' (below_more HB3.out _) (Nat.le_succ _) _⟩
end Go.Proofs.Ytmighkgjbohieaa
