/-
  The contract of peer.Handle.
-/
import Derived.Test.YtmighkgjbohieaaPeerFns
set_option linter.unusedVariables false
set_option linter.unusedSimpArgs false
namespace Go.Proofs.Ytmighkgjbohieaa
open Go.ChangeShapes Go.WideShapes Go.ChangeAt Go.RowKit Go.Great

theorem or_bytes (x y : Int) (hx : 0 ≤ x ∧ x ≤ 255) (hy : 0 ≤ y ∧ y ≤ 255) : bits .or .i64 x (y * 256) = x + 256 * y := by
  obtain ⟨a, rfl⟩ := Int.eq_ofNat_of_zero_le hx.1
  obtain ⟨b, rfl⟩ := Int.eq_ofNat_of_zero_le hy.1
  have ha : a < 256 := by omega
  have hb : b < 256 := by omega
  have h1 : (BitVec.ofInt 64 (a : Int)).toNat = a := by
    rw [BitVec.ofInt_natCast, BitVec.toNat_ofNat]; exact Nat.mod_eq_of_lt (by omega)
  have h2 : (BitVec.ofInt 64 ((b : Int) * 256)).toNat = b * 256 := by
    rw [show (b : Int) * 256 = ((b * 256 : Nat) : Int) by omega, BitVec.ofInt_natCast, BitVec.toNat_ofNat]; exact Nat.mod_eq_of_lt (by omega)
  have h3 : a ||| b * 256 = a + 256 * b := by
    have := Nat.two_pow_add_eq_or_of_lt (i := 8) (b := a) (by omega) b
    rw [Nat.or_comm, Nat.mul_comm b 256, Nat.add_comm]
    exact this.symm
  show IntKind.i64.wrap ((BitVec.ofInt 64 (a : Int) ||| BitVec.ofInt 64 ((b : Int) * 256)).toNat : Int) = _
  rw [BitVec.toNat_or, h1, h2, h3]
  rw [IntWalk.i64_in _ (by omega)]
  omega
set_option maxHeartbeats 4000000 in
set_option maxRecDepth 100000 in
theorem handle_bad (k : Lk) (hB : k.By) (now : Int) (h : k.chk = 8) (ao : Option Addr) (len cap : Nat) (w : World) : Calls Try.prog 20 #[.agg k.cells, .slice ao len cap, .int .i64 now] w (Ret3 w zeroLk [] 8) := by
  obtain ⟨rs, rq⟩ := fr_rows2 w (.cells k.cells 27) (.cells #[.int .u8 0, .int .u8 0, .int .u8 0, .int .u8 0, .int .u8 0, .int .u8 0, .int .u8 0, .int .u8 0, .int .u8 0, .int .u8 0, .int .u8 0, .int .u8 0, .int .u8 0, .int .i64 0, .int .i64 0, .int .i64 0, .int .i64 0] 27)
  have R0 := Lib.hid rs
  have Q0 := Lib.hid rq
  have HIK := Lib.hid (link_info2 k)
  have HIZ := Lib.hid link_infoZ
  clear rs rq
  go_enter Try.func20, Try.ntmps20
  go_wp2_with (with_reducible refine wpList_load_row rfl 27 (.tmp 3) rfl w.heap.size rfl 27 k.cells (0, 0) _ R0.out Try.underlying27 rfl HIK.out ?_)
  refine (begun_bad k hB now h _).mono ?_
  rintro e w1 ⟨rfl, hB1⟩
  have HB1 := Lib.hid ((((Below.refl w.heap.size w).alloc (Nat.le_refl _) _).alloc (by simp only [World.size_alloc]; omega) _).trans (hB1.mono (by simp only [World.size_alloc]; omega)))
  have RQ1 := Lib.hid (row_below hB1 Q0.out)
  clear hB1 R0 Q0
  go_wp2_with ((with_reducible refine wpList_store_rowTo rfl 27 (.tmp 6) (.tmp 21) rfl rfl (w.heap.size + 1) #[.int .u8 0, .int .u8 0, .int .u8 0, .int .u8 0, .int .u8 0, .int .u8 0, .int .u8 0, .int .u8 0, .int .u8 0, .int .u8 0, .int .u8 0, .int .u8 0, .int .u8 0, .int .i64 0, .int .i64 0, .int .i64 0, .int .i64 0] ?_ ?_ 27 #[.int .u8 0, .int .u8 0, .int .u8 0, .int .u8 0, .int .u8 0, .int .u8 0, .int .u8 0, .int .u8 0, .int .u8 0, .int .u8 0, .int .u8 0, .int .u8 0, .int .u8 0, .int .i64 0, .int .i64 0, .int .i64 0, .int .i64 0] RQ1.out HIZ.out rfl zl_one ?_); (as_aux_lemma => kernel_rfl); (as_aux_lemma => kernel_rfl))
  refine bodyPost_ret (results_row3 rfl _ _ (w.heap.size + 1) 27 #[.int .u8 0, .int .u8 0, .int .u8 0, .int .u8 0, .int .u8 0, .int .u8 0, .int .u8 0, .int .u8 0, .int .u8 0, .int .u8 0, .int .u8 0, .int .u8 0, .int .u8 0, .int .i64 0, .int .i64 0, .int .i64 0, .int .i64 0] (0, 0) _ rfl (setRow_heap _ _ _ _ _ _ RQ1.out) Try.underlying27 rfl HIZ.out) rfl ?_
  exact ⟨_, rfl, outAt_nil _ _, below_setRow' HB1.out (by omega) _⟩
set_option maxHeartbeats 4000000 in
set_option maxRecDepth 100000 in
theorem handle_arg (k : Lk) (hB : k.By) (now : Int) (h : k.chk = 0) (ht : btw now 0 1099511627776 = false) (ao : Option Addr) (len cap : Nat) (w : World) : Calls Try.prog 20 #[.agg k.cells, .slice ao len cap, .int .i64 now] w (Ret3 w zeroLk [] 2) := by
  obtain ⟨rs, rq⟩ := fr_rows2 w (.cells k.cells 27) (.cells #[.int .u8 0, .int .u8 0, .int .u8 0, .int .u8 0, .int .u8 0, .int .u8 0, .int .u8 0, .int .u8 0, .int .u8 0, .int .u8 0, .int .u8 0, .int .u8 0, .int .u8 0, .int .i64 0, .int .i64 0, .int .i64 0, .int .i64 0] 27)
  have R0 := Lib.hid rs
  have Q0 := Lib.hid rq
  have HIK := Lib.hid (link_info2 k)
  have HIZ := Lib.hid link_infoZ
  clear rs rq
  go_enter Try.func20, Try.ntmps20
  go_wp2_with (with_reducible refine wpList_load_row rfl 27 (.tmp 3) rfl w.heap.size rfl 27 k.cells (0, 0) _ R0.out Try.underlying27 rfl HIK.out ?_)
  refine (begun_arg k hB now h ht _).mono ?_
  rintro e w1 ⟨rfl, hB1⟩
  have HB1 := Lib.hid ((((Below.refl w.heap.size w).alloc (Nat.le_refl _) _).alloc (by simp only [World.size_alloc]; omega) _).trans (hB1.mono (by simp only [World.size_alloc]; omega)))
  have RQ1 := Lib.hid (row_below hB1 Q0.out)
  clear hB1 R0 Q0
  go_wp2_with ((with_reducible refine wpList_store_rowTo rfl 27 (.tmp 6) (.tmp 21) rfl rfl (w.heap.size + 1) #[.int .u8 0, .int .u8 0, .int .u8 0, .int .u8 0, .int .u8 0, .int .u8 0, .int .u8 0, .int .u8 0, .int .u8 0, .int .u8 0, .int .u8 0, .int .u8 0, .int .u8 0, .int .i64 0, .int .i64 0, .int .i64 0, .int .i64 0] ?_ ?_ 27 #[.int .u8 0, .int .u8 0, .int .u8 0, .int .u8 0, .int .u8 0, .int .u8 0, .int .u8 0, .int .u8 0, .int .u8 0, .int .u8 0, .int .u8 0, .int .u8 0, .int .u8 0, .int .i64 0, .int .i64 0, .int .i64 0, .int .i64 0] RQ1.out HIZ.out rfl zl_one ?_); (as_aux_lemma => kernel_rfl); (as_aux_lemma => kernel_rfl))
  refine bodyPost_ret (results_row3 rfl _ _ (w.heap.size + 1) 27 #[.int .u8 0, .int .u8 0, .int .u8 0, .int .u8 0, .int .u8 0, .int .u8 0, .int .u8 0, .int .u8 0, .int .u8 0, .int .u8 0, .int .u8 0, .int .u8 0, .int .u8 0, .int .i64 0, .int .i64 0, .int .i64 0, .int .i64 0] (0, 0) _ rfl (setRow_heap _ _ _ _ _ _ RQ1.out) Try.underlying27 rfl HIZ.out) rfl ?_
  exact ⟨_, rfl, outAt_nil _ _, below_setRow' HB1.out (by omega) _⟩
set_option maxHeartbeats 4000000 in
set_option maxRecDepth 100000 in
theorem handle_short (k : Lk) (hB : k.By) (now : Int) (h : k.chk = 0) (ht : btw now 0 1099511627776 = true) (hn0 : 0 ≤ now) (hn1 : now ≤ 1099511627776) (hI : k.In) (ao : Option Addr) (len cap : Nat) (hl : len < 5) (w : World) : Calls Try.prog 20 #[.agg k.cells, .slice ao len cap, .int .i64 now] w (Ret3 w zeroLk [] 10) := by
  have hl2 : decide ((len : Int) < 5) = true := by simp; omega
  obtain ⟨rs, rq⟩ := fr_rows2 w (.cells k.cells 27) (.cells #[.int .u8 0, .int .u8 0, .int .u8 0, .int .u8 0, .int .u8 0, .int .u8 0, .int .u8 0, .int .u8 0, .int .u8 0, .int .u8 0, .int .u8 0, .int .u8 0, .int .u8 0, .int .i64 0, .int .i64 0, .int .i64 0, .int .i64 0] 27)
  have R0 := Lib.hid rs
  have Q0 := Lib.hid rq
  have HIK := Lib.hid (link_info2 k)
  have HIZ := Lib.hid link_infoZ
  clear rs rq
  go_enter Try.func20, Try.ntmps20
  go_wp2_with (with_reducible refine wpList_load_row rfl 27 (.tmp 3) rfl w.heap.size rfl 27 k.cells (0, 0) _ R0.out Try.underlying27 rfl HIK.out ?_)
  refine (begun_ok k hB now h ht _).mono ?_
  rintro e w1 ⟨b, rfl, hE, hb, hB1⟩
  have HE := Lib.hid hE
  have hbz : w.heap.size + 1 + 1 ≤ b := by simpa only [World.size_alloc] using hb
  have RS := Lib.hid (row_below hB1 R0.out)
  have RQ1 := Lib.hid (row_below hB1 Q0.out)
  have HB1 := Lib.hid ((((Below.refl w.heap.size w).alloc (Nat.le_refl _) _).alloc (by simp only [World.size_alloc]; omega) _).trans (hB1.mono (by simp only [World.size_alloc]; omega)))
  clear hE hB1 R0 Q0 hb
  have s12 : w1.cell? ⟨w.heap.size, 12, none⟩ = some (.int .u8 k.st) := (cell_of_row _ _ _ _ _ _ RS.out).trans (lk_st k)
  have s15 : w1.cell? ⟨w.heap.size, 15, none⟩ = some (.int .i64 k.tr) := (cell_of_row _ _ _ _ _ _ RS.out).trans (lk_tr k)
  have s16 : w1.cell? ⟨w.heap.size, 16, none⟩ = some (.int .i64 k.du) := (cell_of_row _ _ _ _ _ _ RS.out).trans (lk_du k)
  clear s12 s15 s16
  go_wp2_with ((with_reducible refine wpList_store_rowTo rfl 27 (.tmp 6) (.tmp 26) rfl rfl (w.heap.size + 1) #[.int .u8 0, .int .u8 0, .int .u8 0, .int .u8 0, .int .u8 0, .int .u8 0, .int .u8 0, .int .u8 0, .int .u8 0, .int .u8 0, .int .u8 0, .int .u8 0, .int .u8 0, .int .i64 0, .int .i64 0, .int .i64 0, .int .i64 0] ?_ ?_ 27 #[.int .u8 0, .int .u8 0, .int .u8 0, .int .u8 0, .int .u8 0, .int .u8 0, .int .u8 0, .int .u8 0, .int .u8 0, .int .u8 0, .int .u8 0, .int .u8 0, .int .u8 0, .int .i64 0, .int .i64 0, .int .i64 0, .int .i64 0] RQ1.out HIZ.out rfl zl_one ?_); (as_aux_lemma => kernel_rfl); (as_aux_lemma => kernel_rfl))
  refine bodyPost_ret (results_row3 rfl _ _ (w.heap.size + 1) 27 #[.int .u8 0, .int .u8 0, .int .u8 0, .int .u8 0, .int .u8 0, .int .u8 0, .int .u8 0, .int .u8 0, .int .u8 0, .int .u8 0, .int .u8 0, .int .u8 0, .int .u8 0, .int .i64 0, .int .i64 0, .int .i64 0, .int .i64 0] (0, 0) _ rfl (setRow_heap _ _ _ _ _ _ RQ1.out) Try.underlying27 rfl HIZ.out) rfl ?_
  exact ⟨_, rfl, outAt_nil _ _, below_setRow' HB1.out (by omega) _⟩
set_option maxHeartbeats 4000000 in
set_option maxRecDepth 100000 in
theorem handle_long (k : Lk) (hB : k.By) (now : Int) (h : k.chk = 0) (ht : btw now 0 1099511627776 = true) (hn0 : 0 ≤ now) (hn1 : now ≤ 1099511627776) (hI : k.In) (mb mo cap : Nat) (x0 x1 x2 x3 x4 : Int) (hx0 : 0 ≤ x0 ∧ x0 ≤ 255) (hx1 : 0 ≤ x1 ∧ x1 ≤ 255) (hx2 : 0 ≤ x2 ∧ x2 ≤ 255) (hx3 : 0 ≤ x3 ∧ x3 ≤ 255) (hx4 : 0 ≤ x4 ∧ x4 ≤ 255) (hcap : 5 ≤ cap) (a c : Int) (hA : bits .or .i64 x1 (x2 * 256) = a) (hC : bits .or .i64 x3 (x4 * 256) = c) (len : Nat) (hl : 5 < len) (hlc : len ≤ cap) (w : World) (m0 : w.cell? ⟨mb, mo, none⟩ = some (.int .u8 x0)) (m1 : w.cell? ⟨mb, mo + 1, none⟩ = some (.int .u8 x1)) (m2 : w.cell? ⟨mb, mo + 2, none⟩ = some (.int .u8 x2)) (m3 : w.cell? ⟨mb, mo + 3, none⟩ = some (.int .u8 x3)) (m4 : w.cell? ⟨mb, mo + 4, none⟩ = some (.int .u8 x4)) : Calls Try.prog 20 #[.agg k.cells, .slice (some ⟨mb, mo, none⟩) len cap, .int .i64 now] w (Ret3 w zeroLk [] 12) := by
  have HA := Lib.hid hA
  have HC := Lib.hid hC
  clear hA hC
  have hmb : mb < w.heap.size := World.block_lt_of_cell? w _ m0
  obtain ⟨rs, rq⟩ := fr_rows2 w (.cells k.cells 27) (.cells #[.int .u8 0, .int .u8 0, .int .u8 0, .int .u8 0, .int .u8 0, .int .u8 0, .int .u8 0, .int .u8 0, .int .u8 0, .int .u8 0, .int .u8 0, .int .u8 0, .int .u8 0, .int .i64 0, .int .i64 0, .int .i64 0, .int .i64 0] 27)
  have R0 := Lib.hid rs
  have Q0 := Lib.hid rq
  have HIK := Lib.hid (link_info2 k)
  have HIZ := Lib.hid link_infoZ
  clear rs rq
  go_enter Try.func20, Try.ntmps20
  go_wp2_with (with_reducible refine wpList_load_row rfl 27 (.tmp 3) rfl w.heap.size rfl 27 k.cells (0, 0) _ R0.out Try.underlying27 rfl HIK.out ?_)
  refine (begun_ok k hB now h ht _).mono ?_
  rintro e w1 ⟨b, rfl, hE, hb, hB1⟩
  have HE := Lib.hid hE
  have hbz : w.heap.size + 1 + 1 ≤ b := by simpa only [World.size_alloc] using hb
  have RS := Lib.hid (row_below hB1 R0.out)
  have RQ1 := Lib.hid (row_below hB1 Q0.out)
  have HB1 := Lib.hid ((((Below.refl w.heap.size w).alloc (Nat.le_refl _) _).alloc (by simp only [World.size_alloc]; omega) _).trans (hB1.mono (by simp only [World.size_alloc]; omega)))
  have M0 := Lib.hid (below_kept hB1 (below_kept ((Below.refl _ _).alloc (Nat.le_refl _) _) (below_kept ((Below.refl _ _).alloc (Nat.le_refl _) _) m0)))
  have M1 := Lib.hid (below_kept hB1 (below_kept ((Below.refl _ _).alloc (Nat.le_refl _) _) (below_kept ((Below.refl _ _).alloc (Nat.le_refl _) _) m1)))
  have M2 := Lib.hid (below_kept hB1 (below_kept ((Below.refl _ _).alloc (Nat.le_refl _) _) (below_kept ((Below.refl _ _).alloc (Nat.le_refl _) _) m2)))
  have M3 := Lib.hid (below_kept hB1 (below_kept ((Below.refl _ _).alloc (Nat.le_refl _) _) (below_kept ((Below.refl _ _).alloc (Nat.le_refl _) _) m3)))
  have M4 := Lib.hid (below_kept hB1 (below_kept ((Below.refl _ _).alloc (Nat.le_refl _) _) (below_kept ((Below.refl _ _).alloc (Nat.le_refl _) _) m4)))
  clear hmb m0 m1 m2 m3 m4
  clear hE hB1 R0 Q0 hb
  have s12 : w1.cell? ⟨w.heap.size, 12, none⟩ = some (.int .u8 k.st) := (cell_of_row _ _ _ _ _ _ RS.out).trans (lk_st k)
  have s15 : w1.cell? ⟨w.heap.size, 15, none⟩ = some (.int .i64 k.tr) := (cell_of_row _ _ _ _ _ _ RS.out).trans (lk_tr k)
  have s16 : w1.cell? ⟨w.heap.size, 16, none⟩ = some (.int .i64 k.du) := (cell_of_row _ _ _ _ _ _ RS.out).trans (lk_du k)
  have m0w1 : w1.cell? ⟨mb, mo, none⟩ = some (.int .u8 x0) := M0.out
  have m1w1 : w1.cell? ⟨mb, mo + 1, none⟩ = some (.int .u8 x1) := M1.out
  have m2w1 : w1.cell? ⟨mb, mo + 2, none⟩ = some (.int .u8 x2) := M2.out
  have m3w1 : w1.cell? ⟨mb, mo + 3, none⟩ = some (.int .u8 x3) := M3.out
  have m4w1 : w1.cell? ⟨mb, mo + 4, none⟩ = some (.int .u8 x4) := M4.out
  have my1 : mb < w1.heap.size := World.block_lt_of_cell? _ _ m0w1
  clear s15 s16
  clear s12
  go_wp2_with fail
  go_region
  simp only [HA.out, HC.out]
  have RQ1 := Lib.hid (row_drew RQ1.out)
  have HB1 := Lib.hid HB1.out.drew
  have RS := Lib.hid (row_drew RS.out)
  have HE := Lib.hid (show EndAt w1.drew b k now [] from HE.out)
  go_wp2_with ((with_reducible refine wpList_store_rowTo rfl 27 (.tmp 6) (.tmp 76) rfl rfl (w.heap.size + 1) #[.int .u8 0, .int .u8 0, .int .u8 0, .int .u8 0, .int .u8 0, .int .u8 0, .int .u8 0, .int .u8 0, .int .u8 0, .int .u8 0, .int .u8 0, .int .u8 0, .int .u8 0, .int .i64 0, .int .i64 0, .int .i64 0, .int .i64 0] ?_ ?_ 27 #[.int .u8 0, .int .u8 0, .int .u8 0, .int .u8 0, .int .u8 0, .int .u8 0, .int .u8 0, .int .u8 0, .int .u8 0, .int .u8 0, .int .u8 0, .int .u8 0, .int .u8 0, .int .i64 0, .int .i64 0, .int .i64 0, .int .i64 0] RQ1.out HIZ.out rfl zl_one ?_); (as_aux_lemma => kernel_rfl); (as_aux_lemma => kernel_rfl))
  refine bodyPost_ret (results_row3 rfl _ _ (w.heap.size + 1) 27 #[.int .u8 0, .int .u8 0, .int .u8 0, .int .u8 0, .int .u8 0, .int .u8 0, .int .u8 0, .int .u8 0, .int .u8 0, .int .u8 0, .int .u8 0, .int .u8 0, .int .u8 0, .int .i64 0, .int .i64 0, .int .i64 0, .int .i64 0] (0, 0) _ rfl (setRow_heap _ _ _ _ _ _ RQ1.out) Try.underlying27 rfl HIZ.out) rfl ?_
  exact ⟨_, rfl, outAt_nil _ _, below_setRow' HB1.out (by omega) _⟩
set_option maxHeartbeats 4000000 in
set_option maxRecDepth 100000 in
theorem handle_low (k : Lk) (hB : k.By) (now : Int) (h : k.chk = 0) (ht : btw now 0 1099511627776 = true) (hn0 : 0 ≤ now) (hn1 : now ≤ 1099511627776) (hI : k.In) (mb mo cap : Nat) (x0 x1 x2 x3 x4 : Int) (hx0 : 0 ≤ x0 ∧ x0 ≤ 255) (hx1 : 0 ≤ x1 ∧ x1 ≤ 255) (hx2 : 0 ≤ x2 ∧ x2 ≤ 255) (hx3 : 0 ≤ x3 ∧ x3 ≤ 255) (hx4 : 0 ≤ x4 ∧ x4 ≤ 255) (hcap : 5 ≤ cap) (a c : Int) (hA : bits .or .i64 x1 (x2 * 256) = a) (hC : bits .or .i64 x3 (x4 * 256) = c) (hk : x0 < 1) (w : World) (m0 : w.cell? ⟨mb, mo, none⟩ = some (.int .u8 x0)) (m1 : w.cell? ⟨mb, mo + 1, none⟩ = some (.int .u8 x1)) (m2 : w.cell? ⟨mb, mo + 2, none⟩ = some (.int .u8 x2)) (m3 : w.cell? ⟨mb, mo + 3, none⟩ = some (.int .u8 x3)) (m4 : w.cell? ⟨mb, mo + 4, none⟩ = some (.int .u8 x4)) : Calls Try.prog 20 #[.agg k.cells, .slice (some ⟨mb, mo, none⟩) 5 cap, .int .i64 now] w (Ret3 w zeroLk [] 12) := by
  have HA := Lib.hid hA
  have HC := Lib.hid hC
  clear hA hC
  have hmb : mb < w.heap.size := World.block_lt_of_cell? w _ m0
  obtain ⟨rs, rq⟩ := fr_rows2 w (.cells k.cells 27) (.cells #[.int .u8 0, .int .u8 0, .int .u8 0, .int .u8 0, .int .u8 0, .int .u8 0, .int .u8 0, .int .u8 0, .int .u8 0, .int .u8 0, .int .u8 0, .int .u8 0, .int .u8 0, .int .i64 0, .int .i64 0, .int .i64 0, .int .i64 0] 27)
  have R0 := Lib.hid rs
  have Q0 := Lib.hid rq
  have HIK := Lib.hid (link_info2 k)
  have HIZ := Lib.hid link_infoZ
  clear rs rq
  go_enter Try.func20, Try.ntmps20
  go_wp2_with (with_reducible refine wpList_load_row rfl 27 (.tmp 3) rfl w.heap.size rfl 27 k.cells (0, 0) _ R0.out Try.underlying27 rfl HIK.out ?_)
  refine (begun_ok k hB now h ht _).mono ?_
  rintro e w1 ⟨b, rfl, hE, hb, hB1⟩
  have HE := Lib.hid hE
  have hbz : w.heap.size + 1 + 1 ≤ b := by simpa only [World.size_alloc] using hb
  have RS := Lib.hid (row_below hB1 R0.out)
  have RQ1 := Lib.hid (row_below hB1 Q0.out)
  have HB1 := Lib.hid ((((Below.refl w.heap.size w).alloc (Nat.le_refl _) _).alloc (by simp only [World.size_alloc]; omega) _).trans (hB1.mono (by simp only [World.size_alloc]; omega)))
  have M0 := Lib.hid (below_kept hB1 (below_kept ((Below.refl _ _).alloc (Nat.le_refl _) _) (below_kept ((Below.refl _ _).alloc (Nat.le_refl _) _) m0)))
  have M1 := Lib.hid (below_kept hB1 (below_kept ((Below.refl _ _).alloc (Nat.le_refl _) _) (below_kept ((Below.refl _ _).alloc (Nat.le_refl _) _) m1)))
  have M2 := Lib.hid (below_kept hB1 (below_kept ((Below.refl _ _).alloc (Nat.le_refl _) _) (below_kept ((Below.refl _ _).alloc (Nat.le_refl _) _) m2)))
  have M3 := Lib.hid (below_kept hB1 (below_kept ((Below.refl _ _).alloc (Nat.le_refl _) _) (below_kept ((Below.refl _ _).alloc (Nat.le_refl _) _) m3)))
  have M4 := Lib.hid (below_kept hB1 (below_kept ((Below.refl _ _).alloc (Nat.le_refl _) _) (below_kept ((Below.refl _ _).alloc (Nat.le_refl _) _) m4)))
  clear hmb m0 m1 m2 m3 m4
  clear hE hB1 R0 Q0 hb
  have s12 : w1.cell? ⟨w.heap.size, 12, none⟩ = some (.int .u8 k.st) := (cell_of_row _ _ _ _ _ _ RS.out).trans (lk_st k)
  have s15 : w1.cell? ⟨w.heap.size, 15, none⟩ = some (.int .i64 k.tr) := (cell_of_row _ _ _ _ _ _ RS.out).trans (lk_tr k)
  have s16 : w1.cell? ⟨w.heap.size, 16, none⟩ = some (.int .i64 k.du) := (cell_of_row _ _ _ _ _ _ RS.out).trans (lk_du k)
  have m0w1 : w1.cell? ⟨mb, mo, none⟩ = some (.int .u8 x0) := M0.out
  have m1w1 : w1.cell? ⟨mb, mo + 1, none⟩ = some (.int .u8 x1) := M1.out
  have m2w1 : w1.cell? ⟨mb, mo + 2, none⟩ = some (.int .u8 x2) := M2.out
  have m3w1 : w1.cell? ⟨mb, mo + 3, none⟩ = some (.int .u8 x3) := M3.out
  have m4w1 : w1.cell? ⟨mb, mo + 4, none⟩ = some (.int .u8 x4) := M4.out
  have my1 : mb < w1.heap.size := World.block_lt_of_cell? _ _ m0w1
  clear s15 s16
  clear s12
  go_wp2_with fail
  go_region
  simp only [HA.out, HC.out]
  have RQ1 := Lib.hid (row_drew RQ1.out)
  have HB1 := Lib.hid HB1.out.drew
  have RS := Lib.hid (row_drew RS.out)
  have HE := Lib.hid (show EndAt w1.drew b k now [] from HE.out)
  go_wp2_with ((with_reducible refine wpList_store_rowTo rfl 27 (.tmp 6) (.tmp 76) rfl rfl (w.heap.size + 1) #[.int .u8 0, .int .u8 0, .int .u8 0, .int .u8 0, .int .u8 0, .int .u8 0, .int .u8 0, .int .u8 0, .int .u8 0, .int .u8 0, .int .u8 0, .int .u8 0, .int .u8 0, .int .i64 0, .int .i64 0, .int .i64 0, .int .i64 0] ?_ ?_ 27 #[.int .u8 0, .int .u8 0, .int .u8 0, .int .u8 0, .int .u8 0, .int .u8 0, .int .u8 0, .int .u8 0, .int .u8 0, .int .u8 0, .int .u8 0, .int .u8 0, .int .u8 0, .int .i64 0, .int .i64 0, .int .i64 0, .int .i64 0] RQ1.out HIZ.out rfl zl_one ?_); (as_aux_lemma => kernel_rfl); (as_aux_lemma => kernel_rfl))
  refine bodyPost_ret (results_row3 rfl _ _ (w.heap.size + 1) 27 #[.int .u8 0, .int .u8 0, .int .u8 0, .int .u8 0, .int .u8 0, .int .u8 0, .int .u8 0, .int .u8 0, .int .u8 0, .int .u8 0, .int .u8 0, .int .u8 0, .int .u8 0, .int .i64 0, .int .i64 0, .int .i64 0, .int .i64 0] (0, 0) _ rfl (setRow_heap _ _ _ _ _ _ RQ1.out) Try.underlying27 rfl HIZ.out) rfl ?_
  exact ⟨_, rfl, outAt_nil _ _, below_setRow' HB1.out (by omega) _⟩
set_option maxHeartbeats 4000000 in
set_option maxRecDepth 100000 in
theorem handle_high (k : Lk) (hB : k.By) (now : Int) (h : k.chk = 0) (ht : btw now 0 1099511627776 = true) (hn0 : 0 ≤ now) (hn1 : now ≤ 1099511627776) (hI : k.In) (mb mo cap : Nat) (x0 x1 x2 x3 x4 : Int) (hx0 : 0 ≤ x0 ∧ x0 ≤ 255) (hx1 : 0 ≤ x1 ∧ x1 ≤ 255) (hx2 : 0 ≤ x2 ∧ x2 ≤ 255) (hx3 : 0 ≤ x3 ∧ x3 ≤ 255) (hx4 : 0 ≤ x4 ∧ x4 ≤ 255) (hcap : 5 ≤ cap) (a c : Int) (hA : bits .or .i64 x1 (x2 * 256) = a) (hC : bits .or .i64 x3 (x4 * 256) = c) (hk : 3 < x0) (hk1 : 1 ≤ x0) (w : World) (m0 : w.cell? ⟨mb, mo, none⟩ = some (.int .u8 x0)) (m1 : w.cell? ⟨mb, mo + 1, none⟩ = some (.int .u8 x1)) (m2 : w.cell? ⟨mb, mo + 2, none⟩ = some (.int .u8 x2)) (m3 : w.cell? ⟨mb, mo + 3, none⟩ = some (.int .u8 x3)) (m4 : w.cell? ⟨mb, mo + 4, none⟩ = some (.int .u8 x4)) : Calls Try.prog 20 #[.agg k.cells, .slice (some ⟨mb, mo, none⟩) 5 cap, .int .i64 now] w (Ret3 w zeroLk [] 12) := by
  have HA := Lib.hid hA
  have HC := Lib.hid hC
  clear hA hC
  have hmb : mb < w.heap.size := World.block_lt_of_cell? w _ m0
  obtain ⟨rs, rq⟩ := fr_rows2 w (.cells k.cells 27) (.cells #[.int .u8 0, .int .u8 0, .int .u8 0, .int .u8 0, .int .u8 0, .int .u8 0, .int .u8 0, .int .u8 0, .int .u8 0, .int .u8 0, .int .u8 0, .int .u8 0, .int .u8 0, .int .i64 0, .int .i64 0, .int .i64 0, .int .i64 0] 27)
  have R0 := Lib.hid rs
  have Q0 := Lib.hid rq
  have HIK := Lib.hid (link_info2 k)
  have HIZ := Lib.hid link_infoZ
  clear rs rq
  go_enter Try.func20, Try.ntmps20
  go_wp2_with (with_reducible refine wpList_load_row rfl 27 (.tmp 3) rfl w.heap.size rfl 27 k.cells (0, 0) _ R0.out Try.underlying27 rfl HIK.out ?_)
  refine (begun_ok k hB now h ht _).mono ?_
  rintro e w1 ⟨b, rfl, hE, hb, hB1⟩
  have HE := Lib.hid hE
  have hbz : w.heap.size + 1 + 1 ≤ b := by simpa only [World.size_alloc] using hb
  have RS := Lib.hid (row_below hB1 R0.out)
  have RQ1 := Lib.hid (row_below hB1 Q0.out)
  have HB1 := Lib.hid ((((Below.refl w.heap.size w).alloc (Nat.le_refl _) _).alloc (by simp only [World.size_alloc]; omega) _).trans (hB1.mono (by simp only [World.size_alloc]; omega)))
  have M0 := Lib.hid (below_kept hB1 (below_kept ((Below.refl _ _).alloc (Nat.le_refl _) _) (below_kept ((Below.refl _ _).alloc (Nat.le_refl _) _) m0)))
  have M1 := Lib.hid (below_kept hB1 (below_kept ((Below.refl _ _).alloc (Nat.le_refl _) _) (below_kept ((Below.refl _ _).alloc (Nat.le_refl _) _) m1)))
  have M2 := Lib.hid (below_kept hB1 (below_kept ((Below.refl _ _).alloc (Nat.le_refl _) _) (below_kept ((Below.refl _ _).alloc (Nat.le_refl _) _) m2)))
  have M3 := Lib.hid (below_kept hB1 (below_kept ((Below.refl _ _).alloc (Nat.le_refl _) _) (below_kept ((Below.refl _ _).alloc (Nat.le_refl _) _) m3)))
  have M4 := Lib.hid (below_kept hB1 (below_kept ((Below.refl _ _).alloc (Nat.le_refl _) _) (below_kept ((Below.refl _ _).alloc (Nat.le_refl _) _) m4)))
  clear hmb m0 m1 m2 m3 m4
  clear hE hB1 R0 Q0 hb
  have s12 : w1.cell? ⟨w.heap.size, 12, none⟩ = some (.int .u8 k.st) := (cell_of_row _ _ _ _ _ _ RS.out).trans (lk_st k)
  have s15 : w1.cell? ⟨w.heap.size, 15, none⟩ = some (.int .i64 k.tr) := (cell_of_row _ _ _ _ _ _ RS.out).trans (lk_tr k)
  have s16 : w1.cell? ⟨w.heap.size, 16, none⟩ = some (.int .i64 k.du) := (cell_of_row _ _ _ _ _ _ RS.out).trans (lk_du k)
  have m0w1 : w1.cell? ⟨mb, mo, none⟩ = some (.int .u8 x0) := M0.out
  have m1w1 : w1.cell? ⟨mb, mo + 1, none⟩ = some (.int .u8 x1) := M1.out
  have m2w1 : w1.cell? ⟨mb, mo + 2, none⟩ = some (.int .u8 x2) := M2.out
  have m3w1 : w1.cell? ⟨mb, mo + 3, none⟩ = some (.int .u8 x3) := M3.out
  have m4w1 : w1.cell? ⟨mb, mo + 4, none⟩ = some (.int .u8 x4) := M4.out
  have my1 : mb < w1.heap.size := World.block_lt_of_cell? _ _ m0w1
  clear s15 s16
  clear s12
  go_wp2_with fail
  go_region
  simp only [HA.out, HC.out]
  have RQ1 := Lib.hid (row_drew RQ1.out)
  have HB1 := Lib.hid HB1.out.drew
  have RS := Lib.hid (row_drew RS.out)
  have HE := Lib.hid (show EndAt w1.drew b k now [] from HE.out)
  go_wp2_with ((with_reducible refine wpList_store_rowTo rfl 27 (.tmp 6) (.tmp 76) rfl rfl (w.heap.size + 1) #[.int .u8 0, .int .u8 0, .int .u8 0, .int .u8 0, .int .u8 0, .int .u8 0, .int .u8 0, .int .u8 0, .int .u8 0, .int .u8 0, .int .u8 0, .int .u8 0, .int .u8 0, .int .i64 0, .int .i64 0, .int .i64 0, .int .i64 0] ?_ ?_ 27 #[.int .u8 0, .int .u8 0, .int .u8 0, .int .u8 0, .int .u8 0, .int .u8 0, .int .u8 0, .int .u8 0, .int .u8 0, .int .u8 0, .int .u8 0, .int .u8 0, .int .u8 0, .int .i64 0, .int .i64 0, .int .i64 0, .int .i64 0] RQ1.out HIZ.out rfl zl_one ?_); (as_aux_lemma => kernel_rfl); (as_aux_lemma => kernel_rfl))
  refine bodyPost_ret (results_row3 rfl _ _ (w.heap.size + 1) 27 #[.int .u8 0, .int .u8 0, .int .u8 0, .int .u8 0, .int .u8 0, .int .u8 0, .int .u8 0, .int .u8 0, .int .u8 0, .int .u8 0, .int .u8 0, .int .u8 0, .int .u8 0, .int .i64 0, .int .i64 0, .int .i64 0, .int .i64 0] (0, 0) _ rfl (setRow_heap _ _ _ _ _ _ RQ1.out) Try.underlying27 rfl HIZ.out) rfl ?_
  exact ⟨_, rfl, outAt_nil _ _, below_setRow' HB1.out (by omega) _⟩
set_option maxHeartbeats 4000000 in
set_option maxRecDepth 100000 in
theorem handle_zero (k : Lk) (hB : k.By) (now : Int) (h : k.chk = 0) (ht : btw now 0 1099511627776 = true) (hn0 : 0 ≤ now) (hn1 : now ≤ 1099511627776) (hI : k.In) (mb mo cap : Nat) (x0 x1 x2 x3 x4 : Int) (hx0 : 0 ≤ x0 ∧ x0 ≤ 255) (hx1 : 0 ≤ x1 ∧ x1 ≤ 255) (hx2 : 0 ≤ x2 ∧ x2 ≤ 255) (hx3 : 0 ≤ x3 ∧ x3 ≤ 255) (hx4 : 0 ≤ x4 ∧ x4 ≤ 255) (hcap : 5 ≤ cap) (a c : Int) (hA : bits .or .i64 x1 (x2 * 256) = a) (hC : bits .or .i64 x3 (x4 * 256) = c) (hk : x0 ≤ 3) (hk1 : 1 ≤ x0) (ha : (a == 0) = true) (w : World) (m0 : w.cell? ⟨mb, mo, none⟩ = some (.int .u8 x0)) (m1 : w.cell? ⟨mb, mo + 1, none⟩ = some (.int .u8 x1)) (m2 : w.cell? ⟨mb, mo + 2, none⟩ = some (.int .u8 x2)) (m3 : w.cell? ⟨mb, mo + 3, none⟩ = some (.int .u8 x3)) (m4 : w.cell? ⟨mb, mo + 4, none⟩ = some (.int .u8 x4)) : Calls Try.prog 20 #[.agg k.cells, .slice (some ⟨mb, mo, none⟩) 5 cap, .int .i64 now] w (Ret3 w zeroLk [] 12) := by
  have HA := Lib.hid hA
  have HC := Lib.hid hC
  clear hA hC
  have hmb : mb < w.heap.size := World.block_lt_of_cell? w _ m0
  obtain ⟨rs, rq⟩ := fr_rows2 w (.cells k.cells 27) (.cells #[.int .u8 0, .int .u8 0, .int .u8 0, .int .u8 0, .int .u8 0, .int .u8 0, .int .u8 0, .int .u8 0, .int .u8 0, .int .u8 0, .int .u8 0, .int .u8 0, .int .u8 0, .int .i64 0, .int .i64 0, .int .i64 0, .int .i64 0] 27)
  have R0 := Lib.hid rs
  have Q0 := Lib.hid rq
  have HIK := Lib.hid (link_info2 k)
  have HIZ := Lib.hid link_infoZ
  clear rs rq
  go_enter Try.func20, Try.ntmps20
  go_wp2_with (with_reducible refine wpList_load_row rfl 27 (.tmp 3) rfl w.heap.size rfl 27 k.cells (0, 0) _ R0.out Try.underlying27 rfl HIK.out ?_)
  refine (begun_ok k hB now h ht _).mono ?_
  rintro e w1 ⟨b, rfl, hE, hb, hB1⟩
  have HE := Lib.hid hE
  have hbz : w.heap.size + 1 + 1 ≤ b := by simpa only [World.size_alloc] using hb
  have RS := Lib.hid (row_below hB1 R0.out)
  have RQ1 := Lib.hid (row_below hB1 Q0.out)
  have HB1 := Lib.hid ((((Below.refl w.heap.size w).alloc (Nat.le_refl _) _).alloc (by simp only [World.size_alloc]; omega) _).trans (hB1.mono (by simp only [World.size_alloc]; omega)))
  have M0 := Lib.hid (below_kept hB1 (below_kept ((Below.refl _ _).alloc (Nat.le_refl _) _) (below_kept ((Below.refl _ _).alloc (Nat.le_refl _) _) m0)))
  have M1 := Lib.hid (below_kept hB1 (below_kept ((Below.refl _ _).alloc (Nat.le_refl _) _) (below_kept ((Below.refl _ _).alloc (Nat.le_refl _) _) m1)))
  have M2 := Lib.hid (below_kept hB1 (below_kept ((Below.refl _ _).alloc (Nat.le_refl _) _) (below_kept ((Below.refl _ _).alloc (Nat.le_refl _) _) m2)))
  have M3 := Lib.hid (below_kept hB1 (below_kept ((Below.refl _ _).alloc (Nat.le_refl _) _) (below_kept ((Below.refl _ _).alloc (Nat.le_refl _) _) m3)))
  have M4 := Lib.hid (below_kept hB1 (below_kept ((Below.refl _ _).alloc (Nat.le_refl _) _) (below_kept ((Below.refl _ _).alloc (Nat.le_refl _) _) m4)))
  clear hmb m0 m1 m2 m3 m4
  clear hE hB1 R0 Q0 hb
  have s12 : w1.cell? ⟨w.heap.size, 12, none⟩ = some (.int .u8 k.st) := (cell_of_row _ _ _ _ _ _ RS.out).trans (lk_st k)
  have s15 : w1.cell? ⟨w.heap.size, 15, none⟩ = some (.int .i64 k.tr) := (cell_of_row _ _ _ _ _ _ RS.out).trans (lk_tr k)
  have s16 : w1.cell? ⟨w.heap.size, 16, none⟩ = some (.int .i64 k.du) := (cell_of_row _ _ _ _ _ _ RS.out).trans (lk_du k)
  have m0w1 : w1.cell? ⟨mb, mo, none⟩ = some (.int .u8 x0) := M0.out
  have m1w1 : w1.cell? ⟨mb, mo + 1, none⟩ = some (.int .u8 x1) := M1.out
  have m2w1 : w1.cell? ⟨mb, mo + 2, none⟩ = some (.int .u8 x2) := M2.out
  have m3w1 : w1.cell? ⟨mb, mo + 3, none⟩ = some (.int .u8 x3) := M3.out
  have m4w1 : w1.cell? ⟨mb, mo + 4, none⟩ = some (.int .u8 x4) := M4.out
  have my1 : mb < w1.heap.size := World.block_lt_of_cell? _ _ m0w1
  clear s15 s16
  clear s12
  go_wp2_with fail
  go_region
  simp only [HA.out, HC.out]
  have RQ1 := Lib.hid (row_drew RQ1.out)
  have HB1 := Lib.hid HB1.out.drew
  have RS := Lib.hid (row_drew RS.out)
  have HE := Lib.hid (show EndAt w1.drew b k now [] from HE.out)
  go_wp2_with ((with_reducible refine wpList_store_rowTo rfl 27 (.tmp 6) (.tmp 76) rfl rfl (w.heap.size + 1) #[.int .u8 0, .int .u8 0, .int .u8 0, .int .u8 0, .int .u8 0, .int .u8 0, .int .u8 0, .int .u8 0, .int .u8 0, .int .u8 0, .int .u8 0, .int .u8 0, .int .u8 0, .int .i64 0, .int .i64 0, .int .i64 0, .int .i64 0] ?_ ?_ 27 #[.int .u8 0, .int .u8 0, .int .u8 0, .int .u8 0, .int .u8 0, .int .u8 0, .int .u8 0, .int .u8 0, .int .u8 0, .int .u8 0, .int .u8 0, .int .u8 0, .int .u8 0, .int .i64 0, .int .i64 0, .int .i64 0, .int .i64 0] RQ1.out HIZ.out rfl zl_one ?_); (as_aux_lemma => kernel_rfl); (as_aux_lemma => kernel_rfl))
  refine bodyPost_ret (results_row3 rfl _ _ (w.heap.size + 1) 27 #[.int .u8 0, .int .u8 0, .int .u8 0, .int .u8 0, .int .u8 0, .int .u8 0, .int .u8 0, .int .u8 0, .int .u8 0, .int .u8 0, .int .u8 0, .int .u8 0, .int .u8 0, .int .i64 0, .int .i64 0, .int .i64 0, .int .i64 0] (0, 0) _ rfl (setRow_heap _ _ _ _ _ _ RQ1.out) Try.underlying27 rfl HIZ.out) rfl ?_
  exact ⟨_, rfl, outAt_nil _ _, below_setRow' HB1.out (by omega) _⟩
set_option maxHeartbeats 4000000 in
set_option maxRecDepth 100000 in
theorem handle_open_to (k : Lk) (hB : k.By) (now : Int) (h : k.chk = 0) (ht : btw now 0 1099511627776 = true) (hn0 : 0 ≤ now) (hn1 : now ≤ 1099511627776) (hI : k.In) (mb mo cap : Nat) (x0 x1 x2 x3 x4 : Int) (hx0 : 0 ≤ x0 ∧ x0 ≤ 255) (hx1 : 0 ≤ x1 ∧ x1 ≤ 255) (hx2 : 0 ≤ x2 ∧ x2 ≤ 255) (hx3 : 0 ≤ x3 ∧ x3 ≤ 255) (hx4 : 0 ≤ x4 ∧ x4 ≤ 255) (hcap : 5 ≤ cap) (a c : Int) (hA : bits .or .i64 x1 (x2 * 256) = a) (hC : bits .or .i64 x3 (x4 * 256) = c) (hk : (x0 == 1) = true) (hk1 : 1 ≤ x0) (hk3 : x0 ≤ 3) (ha : (a == 0) = false) (hc : (c == 0) = false) (w : World) (m0 : w.cell? ⟨mb, mo, none⟩ = some (.int .u8 x0)) (m1 : w.cell? ⟨mb, mo + 1, none⟩ = some (.int .u8 x1)) (m2 : w.cell? ⟨mb, mo + 2, none⟩ = some (.int .u8 x2)) (m3 : w.cell? ⟨mb, mo + 3, none⟩ = some (.int .u8 x3)) (m4 : w.cell? ⟨mb, mo + 4, none⟩ = some (.int .u8 x4)) : Calls Try.prog 20 #[.agg k.cells, .slice (some ⟨mb, mo, none⟩) 5 cap, .int .i64 now] w (Ret3 w zeroLk [] 12) := by
  have hc' : (c != 0) = true := by simp only [bne, hc]; rfl
  have HA := Lib.hid hA
  have HC := Lib.hid hC
  clear hA hC
  have hmb : mb < w.heap.size := World.block_lt_of_cell? w _ m0
  obtain ⟨rs, rq⟩ := fr_rows2 w (.cells k.cells 27) (.cells #[.int .u8 0, .int .u8 0, .int .u8 0, .int .u8 0, .int .u8 0, .int .u8 0, .int .u8 0, .int .u8 0, .int .u8 0, .int .u8 0, .int .u8 0, .int .u8 0, .int .u8 0, .int .i64 0, .int .i64 0, .int .i64 0, .int .i64 0] 27)
  have R0 := Lib.hid rs
  have Q0 := Lib.hid rq
  have HIK := Lib.hid (link_info2 k)
  have HIZ := Lib.hid link_infoZ
  clear rs rq
  go_enter Try.func20, Try.ntmps20
  go_wp2_with (with_reducible refine wpList_load_row rfl 27 (.tmp 3) rfl w.heap.size rfl 27 k.cells (0, 0) _ R0.out Try.underlying27 rfl HIK.out ?_)
  refine (begun_ok k hB now h ht _).mono ?_
  rintro e w1 ⟨b, rfl, hE, hb, hB1⟩
  have HE := Lib.hid hE
  have hbz : w.heap.size + 1 + 1 ≤ b := by simpa only [World.size_alloc] using hb
  have RS := Lib.hid (row_below hB1 R0.out)
  have RQ1 := Lib.hid (row_below hB1 Q0.out)
  have HB1 := Lib.hid ((((Below.refl w.heap.size w).alloc (Nat.le_refl _) _).alloc (by simp only [World.size_alloc]; omega) _).trans (hB1.mono (by simp only [World.size_alloc]; omega)))
  have M0 := Lib.hid (below_kept hB1 (below_kept ((Below.refl _ _).alloc (Nat.le_refl _) _) (below_kept ((Below.refl _ _).alloc (Nat.le_refl _) _) m0)))
  have M1 := Lib.hid (below_kept hB1 (below_kept ((Below.refl _ _).alloc (Nat.le_refl _) _) (below_kept ((Below.refl _ _).alloc (Nat.le_refl _) _) m1)))
  have M2 := Lib.hid (below_kept hB1 (below_kept ((Below.refl _ _).alloc (Nat.le_refl _) _) (below_kept ((Below.refl _ _).alloc (Nat.le_refl _) _) m2)))
  have M3 := Lib.hid (below_kept hB1 (below_kept ((Below.refl _ _).alloc (Nat.le_refl _) _) (below_kept ((Below.refl _ _).alloc (Nat.le_refl _) _) m3)))
  have M4 := Lib.hid (below_kept hB1 (below_kept ((Below.refl _ _).alloc (Nat.le_refl _) _) (below_kept ((Below.refl _ _).alloc (Nat.le_refl _) _) m4)))
  clear hmb m0 m1 m2 m3 m4
  clear hE hB1 R0 Q0 hb
  have s12 : w1.cell? ⟨w.heap.size, 12, none⟩ = some (.int .u8 k.st) := (cell_of_row _ _ _ _ _ _ RS.out).trans (lk_st k)
  have s15 : w1.cell? ⟨w.heap.size, 15, none⟩ = some (.int .i64 k.tr) := (cell_of_row _ _ _ _ _ _ RS.out).trans (lk_tr k)
  have s16 : w1.cell? ⟨w.heap.size, 16, none⟩ = some (.int .i64 k.du) := (cell_of_row _ _ _ _ _ _ RS.out).trans (lk_du k)
  have m0w1 : w1.cell? ⟨mb, mo, none⟩ = some (.int .u8 x0) := M0.out
  have m1w1 : w1.cell? ⟨mb, mo + 1, none⟩ = some (.int .u8 x1) := M1.out
  have m2w1 : w1.cell? ⟨mb, mo + 2, none⟩ = some (.int .u8 x2) := M2.out
  have m3w1 : w1.cell? ⟨mb, mo + 3, none⟩ = some (.int .u8 x3) := M3.out
  have m4w1 : w1.cell? ⟨mb, mo + 4, none⟩ = some (.int .u8 x4) := M4.out
  have my1 : mb < w1.heap.size := World.block_lt_of_cell? _ _ m0w1
  clear s15 s16
  clear s12
  go_wp2_with fail
  go_region
  simp only [HA.out, HC.out]
  have RQ1 := Lib.hid (row_drew RQ1.out)
  have HB1 := Lib.hid HB1.out.drew
  have RS := Lib.hid (row_drew RS.out)
  have HE := Lib.hid (show EndAt w1.drew b k now [] from HE.out)
  go_wp2_with ((with_reducible refine wpList_store_rowTo rfl 27 (.tmp 6) (.tmp 76) rfl rfl (w.heap.size + 1) #[.int .u8 0, .int .u8 0, .int .u8 0, .int .u8 0, .int .u8 0, .int .u8 0, .int .u8 0, .int .u8 0, .int .u8 0, .int .u8 0, .int .u8 0, .int .u8 0, .int .u8 0, .int .i64 0, .int .i64 0, .int .i64 0, .int .i64 0] ?_ ?_ 27 #[.int .u8 0, .int .u8 0, .int .u8 0, .int .u8 0, .int .u8 0, .int .u8 0, .int .u8 0, .int .u8 0, .int .u8 0, .int .u8 0, .int .u8 0, .int .u8 0, .int .u8 0, .int .i64 0, .int .i64 0, .int .i64 0, .int .i64 0] RQ1.out HIZ.out rfl zl_one ?_); (as_aux_lemma => kernel_rfl); (as_aux_lemma => kernel_rfl))
  refine bodyPost_ret (results_row3 rfl _ _ (w.heap.size + 1) 27 #[.int .u8 0, .int .u8 0, .int .u8 0, .int .u8 0, .int .u8 0, .int .u8 0, .int .u8 0, .int .u8 0, .int .u8 0, .int .u8 0, .int .u8 0, .int .u8 0, .int .u8 0, .int .i64 0, .int .i64 0, .int .i64 0, .int .i64 0] (0, 0) _ rfl (setRow_heap _ _ _ _ _ _ RQ1.out) Try.underlying27 rfl HIZ.out) rfl ?_
  exact ⟨_, rfl, outAt_nil _ _, below_setRow' HB1.out (by omega) _⟩
set_option maxHeartbeats 4000000 in
set_option maxRecDepth 100000 in
theorem handle_open (k : Lk) (hB : k.By) (now : Int) (h : k.chk = 0) (ht : btw now 0 1099511627776 = true) (hn0 : 0 ≤ now) (hn1 : now ≤ 1099511627776) (hI : k.In) (mb mo cap : Nat) (x1 x2 x3 x4 : Int) (hx1 : 0 ≤ x1 ∧ x1 ≤ 255) (hx2 : 0 ≤ x2 ∧ x2 ≤ 255) (hx3 : 0 ≤ x3 ∧ x3 ≤ 255) (hx4 : 0 ≤ x4 ∧ x4 ≤ 255) (hcap : 5 ≤ cap) (a c : Int) (hA : bits .or .i64 x1 (x2 * 256) = a) (hC : bits .or .i64 x3 (x4 * 256) = c) (ha : (a == 0) = false) (hc : (c == 0) = true) (K : Lk) (ms : List (List Int)) (hm : ∀ (W : World) (b : Nat), EndAt W b k now [] → Calls Try.prog 40 #[.pointer (some ⟨b, 0, none⟩), .int .i64 a] W fun e w' => e = .returned (.tuple #[]) ∧ EndAt w' b K now ms ∧ Below b W w') (w : World) (m0 : w.cell? ⟨mb, mo, none⟩ = some (.int .u8 1)) (m1 : w.cell? ⟨mb, mo + 1, none⟩ = some (.int .u8 x1)) (m2 : w.cell? ⟨mb, mo + 2, none⟩ = some (.int .u8 x2)) (m3 : w.cell? ⟨mb, mo + 3, none⟩ = some (.int .u8 x3)) (m4 : w.cell? ⟨mb, mo + 4, none⟩ = some (.int .u8 x4)) : Calls Try.prog 20 #[.agg k.cells, .slice (some ⟨mb, mo, none⟩) 5 cap, .int .i64 now] w (Ret3 w K ms 0) := by
  have HM := Lib.hid hm
  clear hm
  have hc' : (c != 0) = false := by simp only [bne, hc]; rfl
  have HA := Lib.hid hA
  have HC := Lib.hid hC
  clear hA hC
  have hmb : mb < w.heap.size := World.block_lt_of_cell? w _ m0
  obtain ⟨rs, rq⟩ := fr_rows2 w (.cells k.cells 27) (.cells #[.int .u8 0, .int .u8 0, .int .u8 0, .int .u8 0, .int .u8 0, .int .u8 0, .int .u8 0, .int .u8 0, .int .u8 0, .int .u8 0, .int .u8 0, .int .u8 0, .int .u8 0, .int .i64 0, .int .i64 0, .int .i64 0, .int .i64 0] 27)
  have R0 := Lib.hid rs
  have Q0 := Lib.hid rq
  have HIK := Lib.hid (link_info2 k)
  have HIZ := Lib.hid link_infoZ
  clear rs rq
  go_enter Try.func20, Try.ntmps20
  go_wp2_with (with_reducible refine wpList_load_row rfl 27 (.tmp 3) rfl w.heap.size rfl 27 k.cells (0, 0) _ R0.out Try.underlying27 rfl HIK.out ?_)
  refine (begun_ok k hB now h ht _).mono ?_
  rintro e w1 ⟨b, rfl, hE, hb, hB1⟩
  have HE := Lib.hid hE
  have hbz : w.heap.size + 1 + 1 ≤ b := by simpa only [World.size_alloc] using hb
  have RS := Lib.hid (row_below hB1 R0.out)
  have RQ1 := Lib.hid (row_below hB1 Q0.out)
  have HB1 := Lib.hid ((((Below.refl w.heap.size w).alloc (Nat.le_refl _) _).alloc (by simp only [World.size_alloc]; omega) _).trans (hB1.mono (by simp only [World.size_alloc]; omega)))
  have M0 := Lib.hid (below_kept hB1 (below_kept ((Below.refl _ _).alloc (Nat.le_refl _) _) (below_kept ((Below.refl _ _).alloc (Nat.le_refl _) _) m0)))
  have M1 := Lib.hid (below_kept hB1 (below_kept ((Below.refl _ _).alloc (Nat.le_refl _) _) (below_kept ((Below.refl _ _).alloc (Nat.le_refl _) _) m1)))
  have M2 := Lib.hid (below_kept hB1 (below_kept ((Below.refl _ _).alloc (Nat.le_refl _) _) (below_kept ((Below.refl _ _).alloc (Nat.le_refl _) _) m2)))
  have M3 := Lib.hid (below_kept hB1 (below_kept ((Below.refl _ _).alloc (Nat.le_refl _) _) (below_kept ((Below.refl _ _).alloc (Nat.le_refl _) _) m3)))
  have M4 := Lib.hid (below_kept hB1 (below_kept ((Below.refl _ _).alloc (Nat.le_refl _) _) (below_kept ((Below.refl _ _).alloc (Nat.le_refl _) _) m4)))
  clear hmb m0 m1 m2 m3 m4
  clear hE hB1 R0 Q0 hb
  have s12 : w1.cell? ⟨w.heap.size, 12, none⟩ = some (.int .u8 k.st) := (cell_of_row _ _ _ _ _ _ RS.out).trans (lk_st k)
  have s15 : w1.cell? ⟨w.heap.size, 15, none⟩ = some (.int .i64 k.tr) := (cell_of_row _ _ _ _ _ _ RS.out).trans (lk_tr k)
  have s16 : w1.cell? ⟨w.heap.size, 16, none⟩ = some (.int .i64 k.du) := (cell_of_row _ _ _ _ _ _ RS.out).trans (lk_du k)
  have m0w1 : w1.cell? ⟨mb, mo, none⟩ = some (.int .u8 1) := M0.out
  have m1w1 : w1.cell? ⟨mb, mo + 1, none⟩ = some (.int .u8 x1) := M1.out
  have m2w1 : w1.cell? ⟨mb, mo + 2, none⟩ = some (.int .u8 x2) := M2.out
  have m3w1 : w1.cell? ⟨mb, mo + 3, none⟩ = some (.int .u8 x3) := M3.out
  have m4w1 : w1.cell? ⟨mb, mo + 4, none⟩ = some (.int .u8 x4) := M4.out
  have my1 : mb < w1.heap.size := World.block_lt_of_cell? _ _ m0w1
  clear s15 s16
  clear s12
  go_wp2_with fail
  go_region
  simp only [HA.out, HC.out]
  have RQ1 := Lib.hid (row_drew RQ1.out)
  have HB1 := Lib.hid HB1.out.drew
  have RS := Lib.hid (row_drew RS.out)
  have HE := Lib.hid (show EndAt w1.drew b k now [] from HE.out)
  go_wp2_with fail
  refine (HM.out _ _ HE.out).mono ?_
  rintro e w2 ⟨rfl, hE2, hb2⟩
  have HE2 := Lib.hid hE2
  have RQ2 := Lib.hid (show w2.heap[w.heap.size + 1]? = some (.cells #[.int .u8 0, .int .u8 0, .int .u8 0, .int .u8 0, .int .u8 0, .int .u8 0, .int .u8 0, .int .u8 0, .int .u8 0, .int .u8 0, .int .u8 0, .int .u8 0, .int .u8 0, .int .i64 0, .int .i64 0, .int .i64 0, .int .i64 0] 27) from (hb2.block _ (by omega)).trans RQ1.out)
  have HB2 := Lib.hid (HB1.out.trans (hb2.mono (by omega)))
  have RS2 := Lib.hid (show w2.heap[w.heap.size]? = some (.cells k.cells 27) from (hb2.block _ (by omega)).trans RS.out)
  clear hE2 hb2
  clear m0w1 m1w1 m2w1 m3w1 m4w1 my1
  obtain ⟨v, hr, ho⟩ := HE2.out
  have HR := Lib.hid hr
  have HO := Lib.hid ho
  have RQ := RQ2
  have HB := HB2
  clear hr ho
  go_wp2_with fail
  have HI := Lib.hid (link_info2 K)
  refine wp_region_held_drew (S := fun w' => w'.heap[b]? = some (.cells (endCells K now v) 72)) (by kernel_rfl) HR.out (fun hHeld => ?_)
  refine wpAnyH_take (i := 0) (v := .pointer (some ⟨b, 0, none⟩)) rfl (by kernel_rfl) (by kernel_rfl) (by kernel_rfl) (fun _ _ _ h => h) (Or.inl ⟨by rfl, by intro w hSw; clear hHeld; go_simp⟩) (by assumption) ?_
  simp only [Act.put, List.setIfInBounds_toArray, List.set_cons_zero, List.set_cons_succ, List.getElem_toArray, List.getElem_cons_succ, List.getElem_cons_zero]
  refine wpAnyH_take (i := 1) (v := .pointer (some ⟨b, 0, none⟩)) rfl (by kernel_rfl) (by kernel_rfl) (by kernel_rfl) (fun _ _ _ h => h) (Or.inl ⟨by rfl, by intro w hSw; clear hHeld; go_simp⟩) (by assumption) ?_
  simp only [Act.put, List.setIfInBounds_toArray, List.set_cons_zero, List.set_cons_succ, List.getElem_toArray, List.getElem_cons_succ, List.getElem_cons_zero]
  refine wpAnyH_take (i := 2) (v := .pointer (some ⟨b, 0, none⟩)) rfl (by kernel_rfl) (by kernel_rfl) (by kernel_rfl) (fun _ _ _ h => h) (Or.inl ⟨by rfl, by intro w hSw; clear hHeld; go_simp⟩) (by assumption) ?_
  simp only [Act.put, List.setIfInBounds_toArray, List.set_cons_zero, List.set_cons_succ, List.getElem_toArray, List.getElem_cons_succ, List.getElem_cons_zero]
  refine wpAnyH_take (i := 3) (v := .agg (K).cells) rfl (by kernel_rfl) (by kernel_rfl) (by kernel_rfl) (fun _ _ _ h => h) (yields_row (by rfl) 27 _ rfl b (by rfl) (K).cells _ (fun w' h' => range_end h') Try.underlying27 rfl HI.out) (by assumption) ?_
  simp only [Act.put, List.setIfInBounds_toArray, List.set_cons_zero, List.set_cons_succ, List.getElem_toArray, List.getElem_cons_succ, List.getElem_cons_zero]
  refine wpAnyH_take (i := 4) (v := .pointer (some ⟨b, 0, none⟩)) rfl (by kernel_rfl) (by kernel_rfl) (by kernel_rfl) (fun _ _ _ h => h) (Or.inl ⟨by rfl, by intro w hSw; clear hHeld; go_simp⟩) (by assumption) ?_
  simp only [Act.put, List.setIfInBounds_toArray, List.set_cons_zero, List.set_cons_succ, List.getElem_toArray, List.getElem_cons_succ, List.getElem_cons_zero]
  refine wpAnyH_take (i := 5) (v := .pointer (some ⟨b, 0, none⟩)) rfl (by kernel_rfl) (by kernel_rfl) (by kernel_rfl) (fun _ _ _ h => h) (Or.inl ⟨by rfl, by intro w hSw; clear hHeld; go_simp⟩) (by assumption) ?_
  simp only [Act.put, List.setIfInBounds_toArray, List.set_cons_zero, List.set_cons_succ, List.getElem_toArray, List.getElem_cons_succ, List.getElem_cons_zero]
  refine wpAnyH_take (i := 6) (v := .pointer (some ⟨b, 18, none⟩)) rfl (by kernel_rfl) (by kernel_rfl) (by kernel_rfl) (fun _ _ _ h => h) (Or.inl ⟨by rfl, by intro w hSw; clear hHeld; go_simp⟩) (by assumption) ?_
  simp only [Act.put, List.setIfInBounds_toArray, List.set_cons_zero, List.set_cons_succ, List.getElem_toArray, List.getElem_cons_succ, List.getElem_cons_zero]
  refine wpAnyH_take (i := 7) (v := v) rfl (by kernel_rfl) (by kernel_rfl) (by kernel_rfl) (fun _ _ _ h => h) (Or.inl ⟨by rfl, by intro w hSw; clear hHeld; have c18 : w.cell? ⟨b, 18, none⟩ = some v := (cell_of_row _ _ _ _ _ _ hSw).trans rfl; clear hSw; go_simp⟩) (by assumption) ?_
  simp only [Act.put, List.setIfInBounds_toArray, List.set_cons_zero, List.set_cons_succ, List.getElem_toArray, List.getElem_cons_succ, List.getElem_cons_zero]
  refine wpAnyH_ready (rs := [8]) (by kernel_rfl) (by simp) ?_
  refine AllReadyH.cons (i := 8) (rs := []) rfl ?_ AllReadyH.nil
  intro Kq hKq
  simp only [List.getElem_toArray, List.getElem_cons_succ, List.getElem_cons_zero]
  rw [if_pos (by rfl)]
  refine wp_store_row 27 (.tmp 6) (.tmp 102) (by rfl) (w.heap.size + 1) (K).cells (by as_aux_lemma => kernel_rfl) (by as_aux_lemma => kernel_rfl) 27 #[.int .u8 0, .int .u8 0, .int .u8 0, .int .u8 0, .int .u8 0, .int .u8 0, .int .u8 0, .int .u8 0, .int .u8 0, .int .u8 0, .int .u8 0, .int .u8 0, .int .u8 0, .int .i64 0, .int .i64 0, .int .i64 0, .int .i64 0] RQ.out HI.out (by as_aux_lemma => kernel_rfl) (one_cells _) ?_
  refine hKq.out _ _ ((setRow_other _ _ _ _ (by omega)).trans HR.out) (fun hHeld2 => ?_)
  clear hKq Kq hHeld
  have hHeld := hHeld2
  clear hHeld2
  refine wpAnyH_take (i := 9) (v := v) rfl (by kernel_rfl) (by kernel_rfl) (by kernel_rfl) (fun _ _ _ h => h) (Or.inl ⟨by rfl, by intro w hSw; clear hHeld; go_simp⟩) (by assumption) ?_
  simp only [Act.put, List.setIfInBounds_toArray, List.set_cons_zero, List.set_cons_succ, List.getElem_toArray, List.getElem_cons_succ, List.getElem_cons_zero]
  refine wpAnyH_take (i := 10) (v := .int .i64 0) rfl (by kernel_rfl) (by kernel_rfl) (by kernel_rfl) (fun _ _ _ h => h) (Or.inl ⟨by rfl, by intro w hSw; clear hHeld; go_simp⟩) (by assumption) ?_
  simp only [Act.put, List.setIfInBounds_toArray, List.set_cons_zero, List.set_cons_succ, List.getElem_toArray, List.getElem_cons_succ, List.getElem_cons_zero]
  clear hHeld
  refine wpAnyH_done (by kernel_rfl) ?_ _
  go_wp2
  refine bodyPost_ret (results_row3 rfl _ _ (w.heap.size + 1) 27 (K).cells (0, 0) _ rfl (setRow_heap _ _ _ _ _ _ (row_drew RQ.out)) Try.underlying27 rfl HI.out) rfl ?_
  exact ⟨v, rfl, (HO.out.drew.setRow _ (by omega) _).mono (by omega), below_setRow' HB.out.drew (by omega) _⟩
set_option maxHeartbeats 4000000 in
set_option maxRecDepth 100000 in
theorem handle_confirmed (k : Lk) (hB : k.By) (now : Int) (h : k.chk = 0) (ht : btw now 0 1099511627776 = true) (hn0 : 0 ≤ now) (hn1 : now ≤ 1099511627776) (hI : k.In) (mb mo cap : Nat) (x1 x2 x3 x4 : Int) (hx1 : 0 ≤ x1 ∧ x1 ≤ 255) (hx2 : 0 ≤ x2 ∧ x2 ≤ 255) (hx3 : 0 ≤ x3 ∧ x3 ≤ 255) (hx4 : 0 ≤ x4 ∧ x4 ≤ 255) (hcap : 5 ≤ cap) (a c : Int) (hA : bits .or .i64 x1 (x2 * 256) = a) (hC : bits .or .i64 x3 (x4 * 256) = c) (ha : (a == 0) = false) (K : Lk) (ms : List (List Int)) (hm : ∀ (W : World) (b : Nat), EndAt W b k now [] → Calls Try.prog 41 #[.pointer (some ⟨b, 0, none⟩), .int .i64 a, .int .i64 c] W fun e w' => e = .returned (.int .i64 0) ∧ EndAt w' b K now ms ∧ Below b W w') (w : World) (m0 : w.cell? ⟨mb, mo, none⟩ = some (.int .u8 2)) (m1 : w.cell? ⟨mb, mo + 1, none⟩ = some (.int .u8 x1)) (m2 : w.cell? ⟨mb, mo + 2, none⟩ = some (.int .u8 x2)) (m3 : w.cell? ⟨mb, mo + 3, none⟩ = some (.int .u8 x3)) (m4 : w.cell? ⟨mb, mo + 4, none⟩ = some (.int .u8 x4)) : Calls Try.prog 20 #[.agg k.cells, .slice (some ⟨mb, mo, none⟩) 5 cap, .int .i64 now] w (Ret3 w K ms 0) := by
  have HM := Lib.hid hm
  clear hm
  have HA := Lib.hid hA
  have HC := Lib.hid hC
  clear hA hC
  have hmb : mb < w.heap.size := World.block_lt_of_cell? w _ m0
  obtain ⟨rs, rq⟩ := fr_rows2 w (.cells k.cells 27) (.cells #[.int .u8 0, .int .u8 0, .int .u8 0, .int .u8 0, .int .u8 0, .int .u8 0, .int .u8 0, .int .u8 0, .int .u8 0, .int .u8 0, .int .u8 0, .int .u8 0, .int .u8 0, .int .i64 0, .int .i64 0, .int .i64 0, .int .i64 0] 27)
  have R0 := Lib.hid rs
  have Q0 := Lib.hid rq
  have HIK := Lib.hid (link_info2 k)
  have HIZ := Lib.hid link_infoZ
  clear rs rq
  go_enter Try.func20, Try.ntmps20
  go_wp2_with (with_reducible refine wpList_load_row rfl 27 (.tmp 3) rfl w.heap.size rfl 27 k.cells (0, 0) _ R0.out Try.underlying27 rfl HIK.out ?_)
  refine (begun_ok k hB now h ht _).mono ?_
  rintro e w1 ⟨b, rfl, hE, hb, hB1⟩
  have HE := Lib.hid hE
  have hbz : w.heap.size + 1 + 1 ≤ b := by simpa only [World.size_alloc] using hb
  have RS := Lib.hid (row_below hB1 R0.out)
  have RQ1 := Lib.hid (row_below hB1 Q0.out)
  have HB1 := Lib.hid ((((Below.refl w.heap.size w).alloc (Nat.le_refl _) _).alloc (by simp only [World.size_alloc]; omega) _).trans (hB1.mono (by simp only [World.size_alloc]; omega)))
  have M0 := Lib.hid (below_kept hB1 (below_kept ((Below.refl _ _).alloc (Nat.le_refl _) _) (below_kept ((Below.refl _ _).alloc (Nat.le_refl _) _) m0)))
  have M1 := Lib.hid (below_kept hB1 (below_kept ((Below.refl _ _).alloc (Nat.le_refl _) _) (below_kept ((Below.refl _ _).alloc (Nat.le_refl _) _) m1)))
  have M2 := Lib.hid (below_kept hB1 (below_kept ((Below.refl _ _).alloc (Nat.le_refl _) _) (below_kept ((Below.refl _ _).alloc (Nat.le_refl _) _) m2)))
  have M3 := Lib.hid (below_kept hB1 (below_kept ((Below.refl _ _).alloc (Nat.le_refl _) _) (below_kept ((Below.refl _ _).alloc (Nat.le_refl _) _) m3)))
  have M4 := Lib.hid (below_kept hB1 (below_kept ((Below.refl _ _).alloc (Nat.le_refl _) _) (below_kept ((Below.refl _ _).alloc (Nat.le_refl _) _) m4)))
  clear hmb m0 m1 m2 m3 m4
  clear hE hB1 R0 Q0 hb
  have s12 : w1.cell? ⟨w.heap.size, 12, none⟩ = some (.int .u8 k.st) := (cell_of_row _ _ _ _ _ _ RS.out).trans (lk_st k)
  have s15 : w1.cell? ⟨w.heap.size, 15, none⟩ = some (.int .i64 k.tr) := (cell_of_row _ _ _ _ _ _ RS.out).trans (lk_tr k)
  have s16 : w1.cell? ⟨w.heap.size, 16, none⟩ = some (.int .i64 k.du) := (cell_of_row _ _ _ _ _ _ RS.out).trans (lk_du k)
  have m0w1 : w1.cell? ⟨mb, mo, none⟩ = some (.int .u8 2) := M0.out
  have m1w1 : w1.cell? ⟨mb, mo + 1, none⟩ = some (.int .u8 x1) := M1.out
  have m2w1 : w1.cell? ⟨mb, mo + 2, none⟩ = some (.int .u8 x2) := M2.out
  have m3w1 : w1.cell? ⟨mb, mo + 3, none⟩ = some (.int .u8 x3) := M3.out
  have m4w1 : w1.cell? ⟨mb, mo + 4, none⟩ = some (.int .u8 x4) := M4.out
  have my1 : mb < w1.heap.size := World.block_lt_of_cell? _ _ m0w1
  clear s15 s16
  clear s12
  go_wp2_with fail
  go_region
  simp only [HA.out, HC.out]
  have RQ1 := Lib.hid (row_drew RQ1.out)
  have HB1 := Lib.hid HB1.out.drew
  have RS := Lib.hid (row_drew RS.out)
  have HE := Lib.hid (show EndAt w1.drew b k now [] from HE.out)
  go_wp2_with fail
  refine (HM.out _ _ HE.out).mono ?_
  rintro e w2 ⟨rfl, hE2, hb2⟩
  have HE2 := Lib.hid hE2
  have RQ2 := Lib.hid (show w2.heap[w.heap.size + 1]? = some (.cells #[.int .u8 0, .int .u8 0, .int .u8 0, .int .u8 0, .int .u8 0, .int .u8 0, .int .u8 0, .int .u8 0, .int .u8 0, .int .u8 0, .int .u8 0, .int .u8 0, .int .u8 0, .int .i64 0, .int .i64 0, .int .i64 0, .int .i64 0] 27) from (hb2.block _ (by omega)).trans RQ1.out)
  have HB2 := Lib.hid (HB1.out.trans (hb2.mono (by omega)))
  have RS2 := Lib.hid (show w2.heap[w.heap.size]? = some (.cells k.cells 27) from (hb2.block _ (by omega)).trans RS.out)
  clear hE2 hb2
  clear m0w1 m1w1 m2w1 m3w1 m4w1 my1
  obtain ⟨v, hr, ho⟩ := HE2.out
  have HR := Lib.hid hr
  have HO := Lib.hid ho
  have RQ := RQ2
  have HB := HB2
  clear hr ho
  go_wp2_with fail
  have HI := Lib.hid (link_info2 K)
  refine wp_region_held_drew (S := fun w' => w'.heap[b]? = some (.cells (endCells K now v) 72)) (by kernel_rfl) HR.out (fun hHeld => ?_)
  refine wpAnyH_take (i := 0) (v := .pointer (some ⟨b, 0, none⟩)) rfl (by kernel_rfl) (by kernel_rfl) (by kernel_rfl) (fun _ _ _ h => h) (Or.inl ⟨by rfl, by intro w hSw; clear hHeld; go_simp⟩) (by assumption) ?_
  simp only [Act.put, List.setIfInBounds_toArray, List.set_cons_zero, List.set_cons_succ, List.getElem_toArray, List.getElem_cons_succ, List.getElem_cons_zero]
  refine wpAnyH_take (i := 1) (v := .pointer (some ⟨b, 0, none⟩)) rfl (by kernel_rfl) (by kernel_rfl) (by kernel_rfl) (fun _ _ _ h => h) (Or.inl ⟨by rfl, by intro w hSw; clear hHeld; go_simp⟩) (by assumption) ?_
  simp only [Act.put, List.setIfInBounds_toArray, List.set_cons_zero, List.set_cons_succ, List.getElem_toArray, List.getElem_cons_succ, List.getElem_cons_zero]
  refine wpAnyH_take (i := 2) (v := .pointer (some ⟨b, 0, none⟩)) rfl (by kernel_rfl) (by kernel_rfl) (by kernel_rfl) (fun _ _ _ h => h) (Or.inl ⟨by rfl, by intro w hSw; clear hHeld; go_simp⟩) (by assumption) ?_
  simp only [Act.put, List.setIfInBounds_toArray, List.set_cons_zero, List.set_cons_succ, List.getElem_toArray, List.getElem_cons_succ, List.getElem_cons_zero]
  refine wpAnyH_take (i := 3) (v := .agg (K).cells) rfl (by kernel_rfl) (by kernel_rfl) (by kernel_rfl) (fun _ _ _ h => h) (yields_row (by rfl) 27 _ rfl b (by rfl) (K).cells _ (fun w' h' => range_end h') Try.underlying27 rfl HI.out) (by assumption) ?_
  simp only [Act.put, List.setIfInBounds_toArray, List.set_cons_zero, List.set_cons_succ, List.getElem_toArray, List.getElem_cons_succ, List.getElem_cons_zero]
  refine wpAnyH_take (i := 4) (v := .pointer (some ⟨b, 0, none⟩)) rfl (by kernel_rfl) (by kernel_rfl) (by kernel_rfl) (fun _ _ _ h => h) (Or.inl ⟨by rfl, by intro w hSw; clear hHeld; go_simp⟩) (by assumption) ?_
  simp only [Act.put, List.setIfInBounds_toArray, List.set_cons_zero, List.set_cons_succ, List.getElem_toArray, List.getElem_cons_succ, List.getElem_cons_zero]
  refine wpAnyH_take (i := 5) (v := .pointer (some ⟨b, 0, none⟩)) rfl (by kernel_rfl) (by kernel_rfl) (by kernel_rfl) (fun _ _ _ h => h) (Or.inl ⟨by rfl, by intro w hSw; clear hHeld; go_simp⟩) (by assumption) ?_
  simp only [Act.put, List.setIfInBounds_toArray, List.set_cons_zero, List.set_cons_succ, List.getElem_toArray, List.getElem_cons_succ, List.getElem_cons_zero]
  refine wpAnyH_take (i := 6) (v := .pointer (some ⟨b, 18, none⟩)) rfl (by kernel_rfl) (by kernel_rfl) (by kernel_rfl) (fun _ _ _ h => h) (Or.inl ⟨by rfl, by intro w hSw; clear hHeld; go_simp⟩) (by assumption) ?_
  simp only [Act.put, List.setIfInBounds_toArray, List.set_cons_zero, List.set_cons_succ, List.getElem_toArray, List.getElem_cons_succ, List.getElem_cons_zero]
  refine wpAnyH_take (i := 7) (v := v) rfl (by kernel_rfl) (by kernel_rfl) (by kernel_rfl) (fun _ _ _ h => h) (Or.inl ⟨by rfl, by intro w hSw; clear hHeld; have c18 : w.cell? ⟨b, 18, none⟩ = some v := (cell_of_row _ _ _ _ _ _ hSw).trans rfl; clear hSw; go_simp⟩) (by assumption) ?_
  simp only [Act.put, List.setIfInBounds_toArray, List.set_cons_zero, List.set_cons_succ, List.getElem_toArray, List.getElem_cons_succ, List.getElem_cons_zero]
  refine wpAnyH_ready (rs := [8]) (by kernel_rfl) (by simp) ?_
  refine AllReadyH.cons (i := 8) (rs := []) rfl ?_ AllReadyH.nil
  intro Kq hKq
  simp only [List.getElem_toArray, List.getElem_cons_succ, List.getElem_cons_zero]
  rw [if_pos (by rfl)]
  refine wp_store_row 27 (.tmp 6) (.tmp 102) (by rfl) (w.heap.size + 1) (K).cells (by as_aux_lemma => kernel_rfl) (by as_aux_lemma => kernel_rfl) 27 #[.int .u8 0, .int .u8 0, .int .u8 0, .int .u8 0, .int .u8 0, .int .u8 0, .int .u8 0, .int .u8 0, .int .u8 0, .int .u8 0, .int .u8 0, .int .u8 0, .int .u8 0, .int .i64 0, .int .i64 0, .int .i64 0, .int .i64 0] RQ.out HI.out (by as_aux_lemma => kernel_rfl) (one_cells _) ?_
  refine hKq.out _ _ ((setRow_other _ _ _ _ (by omega)).trans HR.out) (fun hHeld2 => ?_)
  clear hKq Kq hHeld
  have hHeld := hHeld2
  clear hHeld2
  refine wpAnyH_take (i := 9) (v := v) rfl (by kernel_rfl) (by kernel_rfl) (by kernel_rfl) (fun _ _ _ h => h) (Or.inl ⟨by rfl, by intro w hSw; clear hHeld; go_simp⟩) (by assumption) ?_
  simp only [Act.put, List.setIfInBounds_toArray, List.set_cons_zero, List.set_cons_succ, List.getElem_toArray, List.getElem_cons_succ, List.getElem_cons_zero]
  refine wpAnyH_take (i := 10) (v := .int .i64 0) rfl (by kernel_rfl) (by kernel_rfl) (by kernel_rfl) (fun _ _ _ h => h) (Or.inl ⟨by rfl, by intro w hSw; clear hHeld; go_simp⟩) (by assumption) ?_
  simp only [Act.put, List.setIfInBounds_toArray, List.set_cons_zero, List.set_cons_succ, List.getElem_toArray, List.getElem_cons_succ, List.getElem_cons_zero]
  clear hHeld
  refine wpAnyH_done (by kernel_rfl) ?_ _
  go_wp2
  refine bodyPost_ret (results_row3 rfl _ _ (w.heap.size + 1) 27 (K).cells (0, 0) _ rfl (setRow_heap _ _ _ _ _ _ (row_drew RQ.out)) Try.underlying27 rfl HI.out) rfl ?_
  exact ⟨v, rfl, (HO.out.drew.setRow _ (by omega) _).mono (by omega), below_setRow' HB.out.drew (by omega) _⟩
set_option maxHeartbeats 4000000 in
set_option maxRecDepth 100000 in
theorem handle_confirmed_err (k : Lk) (hB : k.By) (now : Int) (h : k.chk = 0) (ht : btw now 0 1099511627776 = true) (hn0 : 0 ≤ now) (hn1 : now ≤ 1099511627776) (hI : k.In) (mb mo cap : Nat) (x1 x2 x3 x4 : Int) (hx1 : 0 ≤ x1 ∧ x1 ≤ 255) (hx2 : 0 ≤ x2 ∧ x2 ≤ 255) (hx3 : 0 ≤ x3 ∧ x3 ≤ 255) (hx4 : 0 ≤ x4 ∧ x4 ≤ 255) (hcap : 5 ≤ cap) (a c : Int) (hA : bits .or .i64 x1 (x2 * 256) = a) (hC : bits .or .i64 x3 (x4 * 256) = c) (ha : (a == 0) = false) (er : Int) (her : (er != 0) = true) (K : Lk) (ms : List (List Int)) (hm : ∀ (W : World) (b : Nat), EndAt W b k now [] → Calls Try.prog 41 #[.pointer (some ⟨b, 0, none⟩), .int .i64 a, .int .i64 c] W fun e w' => e = .returned (.int .i64 er) ∧ EndAt w' b K now ms ∧ Below b W w') (w : World) (m0 : w.cell? ⟨mb, mo, none⟩ = some (.int .u8 2)) (m1 : w.cell? ⟨mb, mo + 1, none⟩ = some (.int .u8 x1)) (m2 : w.cell? ⟨mb, mo + 2, none⟩ = some (.int .u8 x2)) (m3 : w.cell? ⟨mb, mo + 3, none⟩ = some (.int .u8 x3)) (m4 : w.cell? ⟨mb, mo + 4, none⟩ = some (.int .u8 x4)) : Calls Try.prog 20 #[.agg k.cells, .slice (some ⟨mb, mo, none⟩) 5 cap, .int .i64 now] w (Ret3 w zeroLk [] er) := by
  have HM := Lib.hid hm
  clear hm
  have HA := Lib.hid hA
  have HC := Lib.hid hC
  clear hA hC
  have hmb : mb < w.heap.size := World.block_lt_of_cell? w _ m0
  obtain ⟨rs, rq⟩ := fr_rows2 w (.cells k.cells 27) (.cells #[.int .u8 0, .int .u8 0, .int .u8 0, .int .u8 0, .int .u8 0, .int .u8 0, .int .u8 0, .int .u8 0, .int .u8 0, .int .u8 0, .int .u8 0, .int .u8 0, .int .u8 0, .int .i64 0, .int .i64 0, .int .i64 0, .int .i64 0] 27)
  have R0 := Lib.hid rs
  have Q0 := Lib.hid rq
  have HIK := Lib.hid (link_info2 k)
  have HIZ := Lib.hid link_infoZ
  clear rs rq
  go_enter Try.func20, Try.ntmps20
  go_wp2_with (with_reducible refine wpList_load_row rfl 27 (.tmp 3) rfl w.heap.size rfl 27 k.cells (0, 0) _ R0.out Try.underlying27 rfl HIK.out ?_)
  refine (begun_ok k hB now h ht _).mono ?_
  rintro e w1 ⟨b, rfl, hE, hb, hB1⟩
  have HE := Lib.hid hE
  have hbz : w.heap.size + 1 + 1 ≤ b := by simpa only [World.size_alloc] using hb
  have RS := Lib.hid (row_below hB1 R0.out)
  have RQ1 := Lib.hid (row_below hB1 Q0.out)
  have HB1 := Lib.hid ((((Below.refl w.heap.size w).alloc (Nat.le_refl _) _).alloc (by simp only [World.size_alloc]; omega) _).trans (hB1.mono (by simp only [World.size_alloc]; omega)))
  have M0 := Lib.hid (below_kept hB1 (below_kept ((Below.refl _ _).alloc (Nat.le_refl _) _) (below_kept ((Below.refl _ _).alloc (Nat.le_refl _) _) m0)))
  have M1 := Lib.hid (below_kept hB1 (below_kept ((Below.refl _ _).alloc (Nat.le_refl _) _) (below_kept ((Below.refl _ _).alloc (Nat.le_refl _) _) m1)))
  have M2 := Lib.hid (below_kept hB1 (below_kept ((Below.refl _ _).alloc (Nat.le_refl _) _) (below_kept ((Below.refl _ _).alloc (Nat.le_refl _) _) m2)))
  have M3 := Lib.hid (below_kept hB1 (below_kept ((Below.refl _ _).alloc (Nat.le_refl _) _) (below_kept ((Below.refl _ _).alloc (Nat.le_refl _) _) m3)))
  have M4 := Lib.hid (below_kept hB1 (below_kept ((Below.refl _ _).alloc (Nat.le_refl _) _) (below_kept ((Below.refl _ _).alloc (Nat.le_refl _) _) m4)))
  clear hmb m0 m1 m2 m3 m4
  clear hE hB1 R0 Q0 hb
  have s12 : w1.cell? ⟨w.heap.size, 12, none⟩ = some (.int .u8 k.st) := (cell_of_row _ _ _ _ _ _ RS.out).trans (lk_st k)
  have s15 : w1.cell? ⟨w.heap.size, 15, none⟩ = some (.int .i64 k.tr) := (cell_of_row _ _ _ _ _ _ RS.out).trans (lk_tr k)
  have s16 : w1.cell? ⟨w.heap.size, 16, none⟩ = some (.int .i64 k.du) := (cell_of_row _ _ _ _ _ _ RS.out).trans (lk_du k)
  have m0w1 : w1.cell? ⟨mb, mo, none⟩ = some (.int .u8 2) := M0.out
  have m1w1 : w1.cell? ⟨mb, mo + 1, none⟩ = some (.int .u8 x1) := M1.out
  have m2w1 : w1.cell? ⟨mb, mo + 2, none⟩ = some (.int .u8 x2) := M2.out
  have m3w1 : w1.cell? ⟨mb, mo + 3, none⟩ = some (.int .u8 x3) := M3.out
  have m4w1 : w1.cell? ⟨mb, mo + 4, none⟩ = some (.int .u8 x4) := M4.out
  have my1 : mb < w1.heap.size := World.block_lt_of_cell? _ _ m0w1
  clear s15 s16
  clear s12
  go_wp2_with fail
  go_region
  simp only [HA.out, HC.out]
  have RQ1 := Lib.hid (row_drew RQ1.out)
  have HB1 := Lib.hid HB1.out.drew
  have RS := Lib.hid (row_drew RS.out)
  have HE := Lib.hid (show EndAt w1.drew b k now [] from HE.out)
  go_wp2_with fail
  refine (HM.out _ _ HE.out).mono ?_
  rintro e w2 ⟨rfl, hE2, hb2⟩
  have HE2 := Lib.hid hE2
  have RQ2 := Lib.hid (show w2.heap[w.heap.size + 1]? = some (.cells #[.int .u8 0, .int .u8 0, .int .u8 0, .int .u8 0, .int .u8 0, .int .u8 0, .int .u8 0, .int .u8 0, .int .u8 0, .int .u8 0, .int .u8 0, .int .u8 0, .int .u8 0, .int .i64 0, .int .i64 0, .int .i64 0, .int .i64 0] 27) from (hb2.block _ (by omega)).trans RQ1.out)
  have HB2 := Lib.hid (HB1.out.trans (hb2.mono (by omega)))
  have RS2 := Lib.hid (show w2.heap[w.heap.size]? = some (.cells k.cells 27) from (hb2.block _ (by omega)).trans RS.out)
  clear hE2 hb2
  clear m0w1 m1w1 m2w1 m3w1 m4w1 my1
  go_wp2_with ((with_reducible refine wpList_store_rowTo rfl 27 (.tmp 6) (.tmp 97) rfl rfl (w.heap.size + 1) #[.int .u8 0, .int .u8 0, .int .u8 0, .int .u8 0, .int .u8 0, .int .u8 0, .int .u8 0, .int .u8 0, .int .u8 0, .int .u8 0, .int .u8 0, .int .u8 0, .int .u8 0, .int .i64 0, .int .i64 0, .int .i64 0, .int .i64 0] ?_ ?_ 27 #[.int .u8 0, .int .u8 0, .int .u8 0, .int .u8 0, .int .u8 0, .int .u8 0, .int .u8 0, .int .u8 0, .int .u8 0, .int .u8 0, .int .u8 0, .int .u8 0, .int .u8 0, .int .i64 0, .int .i64 0, .int .i64 0, .int .i64 0] RQ2.out HIZ.out rfl zl_one ?_); (as_aux_lemma => kernel_rfl); (as_aux_lemma => kernel_rfl))
  refine bodyPost_ret (results_row3 rfl _ _ (w.heap.size + 1) 27 #[.int .u8 0, .int .u8 0, .int .u8 0, .int .u8 0, .int .u8 0, .int .u8 0, .int .u8 0, .int .u8 0, .int .u8 0, .int .u8 0, .int .u8 0, .int .u8 0, .int .u8 0, .int .i64 0, .int .i64 0, .int .i64 0, .int .i64 0] (0, 0) _ rfl (setRow_heap _ _ _ _ _ _ RQ2.out) Try.underlying27 rfl HIZ.out) rfl ?_
  exact ⟨_, rfl, outAt_nil _ _, below_setRow' HB2.out (by omega) _⟩
set_option maxHeartbeats 4000000 in
set_option maxRecDepth 100000 in
theorem handle_closed (k : Lk) (hB : k.By) (now : Int) (h : k.chk = 0) (ht : btw now 0 1099511627776 = true) (hn0 : 0 ≤ now) (hn1 : now ≤ 1099511627776) (hI : k.In) (mb mo cap : Nat) (x1 x2 x3 x4 : Int) (hx1 : 0 ≤ x1 ∧ x1 ≤ 255) (hx2 : 0 ≤ x2 ∧ x2 ≤ 255) (hx3 : 0 ≤ x3 ∧ x3 ≤ 255) (hx4 : 0 ≤ x4 ∧ x4 ≤ 255) (hcap : 5 ≤ cap) (a c : Int) (hA : bits .or .i64 x1 (x2 * 256) = a) (hC : bits .or .i64 x3 (x4 * 256) = c) (ha : (a == 0) = false) (K : Lk) (ms : List (List Int)) (hm : ∀ (W : World) (b : Nat), EndAt W b k now [] → Calls Try.prog 42 #[.pointer (some ⟨b, 0, none⟩), .int .i64 a, .int .i64 c] W fun e w' => e = .returned (.int .i64 0) ∧ EndAt w' b K now ms ∧ Below b W w') (w : World) (m0 : w.cell? ⟨mb, mo, none⟩ = some (.int .u8 3)) (m1 : w.cell? ⟨mb, mo + 1, none⟩ = some (.int .u8 x1)) (m2 : w.cell? ⟨mb, mo + 2, none⟩ = some (.int .u8 x2)) (m3 : w.cell? ⟨mb, mo + 3, none⟩ = some (.int .u8 x3)) (m4 : w.cell? ⟨mb, mo + 4, none⟩ = some (.int .u8 x4)) : Calls Try.prog 20 #[.agg k.cells, .slice (some ⟨mb, mo, none⟩) 5 cap, .int .i64 now] w (Ret3 w K ms 0) := by
  have HM := Lib.hid hm
  clear hm
  have HA := Lib.hid hA
  have HC := Lib.hid hC
  clear hA hC
  have hmb : mb < w.heap.size := World.block_lt_of_cell? w _ m0
  obtain ⟨rs, rq⟩ := fr_rows2 w (.cells k.cells 27) (.cells #[.int .u8 0, .int .u8 0, .int .u8 0, .int .u8 0, .int .u8 0, .int .u8 0, .int .u8 0, .int .u8 0, .int .u8 0, .int .u8 0, .int .u8 0, .int .u8 0, .int .u8 0, .int .i64 0, .int .i64 0, .int .i64 0, .int .i64 0] 27)
  have R0 := Lib.hid rs
  have Q0 := Lib.hid rq
  have HIK := Lib.hid (link_info2 k)
  have HIZ := Lib.hid link_infoZ
  clear rs rq
  go_enter Try.func20, Try.ntmps20
  go_wp2_with (with_reducible refine wpList_load_row rfl 27 (.tmp 3) rfl w.heap.size rfl 27 k.cells (0, 0) _ R0.out Try.underlying27 rfl HIK.out ?_)
  refine (begun_ok k hB now h ht _).mono ?_
  rintro e w1 ⟨b, rfl, hE, hb, hB1⟩
  have HE := Lib.hid hE
  have hbz : w.heap.size + 1 + 1 ≤ b := by simpa only [World.size_alloc] using hb
  have RS := Lib.hid (row_below hB1 R0.out)
  have RQ1 := Lib.hid (row_below hB1 Q0.out)
  have HB1 := Lib.hid ((((Below.refl w.heap.size w).alloc (Nat.le_refl _) _).alloc (by simp only [World.size_alloc]; omega) _).trans (hB1.mono (by simp only [World.size_alloc]; omega)))
  have M0 := Lib.hid (below_kept hB1 (below_kept ((Below.refl _ _).alloc (Nat.le_refl _) _) (below_kept ((Below.refl _ _).alloc (Nat.le_refl _) _) m0)))
  have M1 := Lib.hid (below_kept hB1 (below_kept ((Below.refl _ _).alloc (Nat.le_refl _) _) (below_kept ((Below.refl _ _).alloc (Nat.le_refl _) _) m1)))
  have M2 := Lib.hid (below_kept hB1 (below_kept ((Below.refl _ _).alloc (Nat.le_refl _) _) (below_kept ((Below.refl _ _).alloc (Nat.le_refl _) _) m2)))
  have M3 := Lib.hid (below_kept hB1 (below_kept ((Below.refl _ _).alloc (Nat.le_refl _) _) (below_kept ((Below.refl _ _).alloc (Nat.le_refl _) _) m3)))
  have M4 := Lib.hid (below_kept hB1 (below_kept ((Below.refl _ _).alloc (Nat.le_refl _) _) (below_kept ((Below.refl _ _).alloc (Nat.le_refl _) _) m4)))
  clear hmb m0 m1 m2 m3 m4
  clear hE hB1 R0 Q0 hb
  have s12 : w1.cell? ⟨w.heap.size, 12, none⟩ = some (.int .u8 k.st) := (cell_of_row _ _ _ _ _ _ RS.out).trans (lk_st k)
  have s15 : w1.cell? ⟨w.heap.size, 15, none⟩ = some (.int .i64 k.tr) := (cell_of_row _ _ _ _ _ _ RS.out).trans (lk_tr k)
  have s16 : w1.cell? ⟨w.heap.size, 16, none⟩ = some (.int .i64 k.du) := (cell_of_row _ _ _ _ _ _ RS.out).trans (lk_du k)
  have m0w1 : w1.cell? ⟨mb, mo, none⟩ = some (.int .u8 3) := M0.out
  have m1w1 : w1.cell? ⟨mb, mo + 1, none⟩ = some (.int .u8 x1) := M1.out
  have m2w1 : w1.cell? ⟨mb, mo + 2, none⟩ = some (.int .u8 x2) := M2.out
  have m3w1 : w1.cell? ⟨mb, mo + 3, none⟩ = some (.int .u8 x3) := M3.out
  have m4w1 : w1.cell? ⟨mb, mo + 4, none⟩ = some (.int .u8 x4) := M4.out
  have my1 : mb < w1.heap.size := World.block_lt_of_cell? _ _ m0w1
  clear s15 s16
  clear s12
  go_wp2_with fail
  go_region
  simp only [HA.out, HC.out]
  have RQ1 := Lib.hid (row_drew RQ1.out)
  have HB1 := Lib.hid HB1.out.drew
  have RS := Lib.hid (row_drew RS.out)
  have HE := Lib.hid (show EndAt w1.drew b k now [] from HE.out)
  go_wp2_with fail
  refine (HM.out _ _ HE.out).mono ?_
  rintro e w2 ⟨rfl, hE2, hb2⟩
  have HE2 := Lib.hid hE2
  have RQ2 := Lib.hid (show w2.heap[w.heap.size + 1]? = some (.cells #[.int .u8 0, .int .u8 0, .int .u8 0, .int .u8 0, .int .u8 0, .int .u8 0, .int .u8 0, .int .u8 0, .int .u8 0, .int .u8 0, .int .u8 0, .int .u8 0, .int .u8 0, .int .i64 0, .int .i64 0, .int .i64 0, .int .i64 0] 27) from (hb2.block _ (by omega)).trans RQ1.out)
  have HB2 := Lib.hid (HB1.out.trans (hb2.mono (by omega)))
  have RS2 := Lib.hid (show w2.heap[w.heap.size]? = some (.cells k.cells 27) from (hb2.block _ (by omega)).trans RS.out)
  clear hE2 hb2
  clear m0w1 m1w1 m2w1 m3w1 m4w1 my1
  obtain ⟨v, hr, ho⟩ := HE2.out
  have HR := Lib.hid hr
  have HO := Lib.hid ho
  have RQ := RQ2
  have HB := HB2
  clear hr ho
  go_wp2_with fail
  have HI := Lib.hid (link_info2 K)
  refine wp_region_held_drew (S := fun w' => w'.heap[b]? = some (.cells (endCells K now v) 72)) (by kernel_rfl) HR.out (fun hHeld => ?_)
  refine wpAnyH_take (i := 0) (v := .pointer (some ⟨b, 0, none⟩)) rfl (by kernel_rfl) (by kernel_rfl) (by kernel_rfl) (fun _ _ _ h => h) (Or.inl ⟨by rfl, by intro w hSw; clear hHeld; go_simp⟩) (by assumption) ?_
  simp only [Act.put, List.setIfInBounds_toArray, List.set_cons_zero, List.set_cons_succ, List.getElem_toArray, List.getElem_cons_succ, List.getElem_cons_zero]
  refine wpAnyH_take (i := 1) (v := .pointer (some ⟨b, 0, none⟩)) rfl (by kernel_rfl) (by kernel_rfl) (by kernel_rfl) (fun _ _ _ h => h) (Or.inl ⟨by rfl, by intro w hSw; clear hHeld; go_simp⟩) (by assumption) ?_
  simp only [Act.put, List.setIfInBounds_toArray, List.set_cons_zero, List.set_cons_succ, List.getElem_toArray, List.getElem_cons_succ, List.getElem_cons_zero]
  refine wpAnyH_take (i := 2) (v := .pointer (some ⟨b, 0, none⟩)) rfl (by kernel_rfl) (by kernel_rfl) (by kernel_rfl) (fun _ _ _ h => h) (Or.inl ⟨by rfl, by intro w hSw; clear hHeld; go_simp⟩) (by assumption) ?_
  simp only [Act.put, List.setIfInBounds_toArray, List.set_cons_zero, List.set_cons_succ, List.getElem_toArray, List.getElem_cons_succ, List.getElem_cons_zero]
  refine wpAnyH_take (i := 3) (v := .agg (K).cells) rfl (by kernel_rfl) (by kernel_rfl) (by kernel_rfl) (fun _ _ _ h => h) (yields_row (by rfl) 27 _ rfl b (by rfl) (K).cells _ (fun w' h' => range_end h') Try.underlying27 rfl HI.out) (by assumption) ?_
  simp only [Act.put, List.setIfInBounds_toArray, List.set_cons_zero, List.set_cons_succ, List.getElem_toArray, List.getElem_cons_succ, List.getElem_cons_zero]
  refine wpAnyH_take (i := 4) (v := .pointer (some ⟨b, 0, none⟩)) rfl (by kernel_rfl) (by kernel_rfl) (by kernel_rfl) (fun _ _ _ h => h) (Or.inl ⟨by rfl, by intro w hSw; clear hHeld; go_simp⟩) (by assumption) ?_
  simp only [Act.put, List.setIfInBounds_toArray, List.set_cons_zero, List.set_cons_succ, List.getElem_toArray, List.getElem_cons_succ, List.getElem_cons_zero]
  refine wpAnyH_take (i := 5) (v := .pointer (some ⟨b, 0, none⟩)) rfl (by kernel_rfl) (by kernel_rfl) (by kernel_rfl) (fun _ _ _ h => h) (Or.inl ⟨by rfl, by intro w hSw; clear hHeld; go_simp⟩) (by assumption) ?_
  simp only [Act.put, List.setIfInBounds_toArray, List.set_cons_zero, List.set_cons_succ, List.getElem_toArray, List.getElem_cons_succ, List.getElem_cons_zero]
  refine wpAnyH_take (i := 6) (v := .pointer (some ⟨b, 18, none⟩)) rfl (by kernel_rfl) (by kernel_rfl) (by kernel_rfl) (fun _ _ _ h => h) (Or.inl ⟨by rfl, by intro w hSw; clear hHeld; go_simp⟩) (by assumption) ?_
  simp only [Act.put, List.setIfInBounds_toArray, List.set_cons_zero, List.set_cons_succ, List.getElem_toArray, List.getElem_cons_succ, List.getElem_cons_zero]
  refine wpAnyH_take (i := 7) (v := v) rfl (by kernel_rfl) (by kernel_rfl) (by kernel_rfl) (fun _ _ _ h => h) (Or.inl ⟨by rfl, by intro w hSw; clear hHeld; have c18 : w.cell? ⟨b, 18, none⟩ = some v := (cell_of_row _ _ _ _ _ _ hSw).trans rfl; clear hSw; go_simp⟩) (by assumption) ?_
  simp only [Act.put, List.setIfInBounds_toArray, List.set_cons_zero, List.set_cons_succ, List.getElem_toArray, List.getElem_cons_succ, List.getElem_cons_zero]
  refine wpAnyH_ready (rs := [8]) (by kernel_rfl) (by simp) ?_
  refine AllReadyH.cons (i := 8) (rs := []) rfl ?_ AllReadyH.nil
  intro Kq hKq
  simp only [List.getElem_toArray, List.getElem_cons_succ, List.getElem_cons_zero]
  rw [if_pos (by rfl)]
  refine wp_store_row 27 (.tmp 6) (.tmp 102) (by rfl) (w.heap.size + 1) (K).cells (by as_aux_lemma => kernel_rfl) (by as_aux_lemma => kernel_rfl) 27 #[.int .u8 0, .int .u8 0, .int .u8 0, .int .u8 0, .int .u8 0, .int .u8 0, .int .u8 0, .int .u8 0, .int .u8 0, .int .u8 0, .int .u8 0, .int .u8 0, .int .u8 0, .int .i64 0, .int .i64 0, .int .i64 0, .int .i64 0] RQ.out HI.out (by as_aux_lemma => kernel_rfl) (one_cells _) ?_
  refine hKq.out _ _ ((setRow_other _ _ _ _ (by omega)).trans HR.out) (fun hHeld2 => ?_)
  clear hKq Kq hHeld
  have hHeld := hHeld2
  clear hHeld2
  refine wpAnyH_take (i := 9) (v := v) rfl (by kernel_rfl) (by kernel_rfl) (by kernel_rfl) (fun _ _ _ h => h) (Or.inl ⟨by rfl, by intro w hSw; clear hHeld; go_simp⟩) (by assumption) ?_
  simp only [Act.put, List.setIfInBounds_toArray, List.set_cons_zero, List.set_cons_succ, List.getElem_toArray, List.getElem_cons_succ, List.getElem_cons_zero]
  refine wpAnyH_take (i := 10) (v := .int .i64 0) rfl (by kernel_rfl) (by kernel_rfl) (by kernel_rfl) (fun _ _ _ h => h) (Or.inl ⟨by rfl, by intro w hSw; clear hHeld; go_simp⟩) (by assumption) ?_
  simp only [Act.put, List.setIfInBounds_toArray, List.set_cons_zero, List.set_cons_succ, List.getElem_toArray, List.getElem_cons_succ, List.getElem_cons_zero]
  clear hHeld
  refine wpAnyH_done (by kernel_rfl) ?_ _
  go_wp2
  refine bodyPost_ret (results_row3 rfl _ _ (w.heap.size + 1) 27 (K).cells (0, 0) _ rfl (setRow_heap _ _ _ _ _ _ (row_drew RQ.out)) Try.underlying27 rfl HI.out) rfl ?_
  exact ⟨v, rfl, (HO.out.drew.setRow _ (by omega) _).mono (by omega), below_setRow' HB.out.drew (by omega) _⟩
set_option maxHeartbeats 4000000 in
set_option maxRecDepth 100000 in
theorem handle_closed_err (k : Lk) (hB : k.By) (now : Int) (h : k.chk = 0) (ht : btw now 0 1099511627776 = true) (hn0 : 0 ≤ now) (hn1 : now ≤ 1099511627776) (hI : k.In) (mb mo cap : Nat) (x1 x2 x3 x4 : Int) (hx1 : 0 ≤ x1 ∧ x1 ≤ 255) (hx2 : 0 ≤ x2 ∧ x2 ≤ 255) (hx3 : 0 ≤ x3 ∧ x3 ≤ 255) (hx4 : 0 ≤ x4 ∧ x4 ≤ 255) (hcap : 5 ≤ cap) (a c : Int) (hA : bits .or .i64 x1 (x2 * 256) = a) (hC : bits .or .i64 x3 (x4 * 256) = c) (ha : (a == 0) = false) (er : Int) (her : (er != 0) = true) (K : Lk) (ms : List (List Int)) (hm : ∀ (W : World) (b : Nat), EndAt W b k now [] → Calls Try.prog 42 #[.pointer (some ⟨b, 0, none⟩), .int .i64 a, .int .i64 c] W fun e w' => e = .returned (.int .i64 er) ∧ EndAt w' b K now ms ∧ Below b W w') (w : World) (m0 : w.cell? ⟨mb, mo, none⟩ = some (.int .u8 3)) (m1 : w.cell? ⟨mb, mo + 1, none⟩ = some (.int .u8 x1)) (m2 : w.cell? ⟨mb, mo + 2, none⟩ = some (.int .u8 x2)) (m3 : w.cell? ⟨mb, mo + 3, none⟩ = some (.int .u8 x3)) (m4 : w.cell? ⟨mb, mo + 4, none⟩ = some (.int .u8 x4)) : Calls Try.prog 20 #[.agg k.cells, .slice (some ⟨mb, mo, none⟩) 5 cap, .int .i64 now] w (Ret3 w zeroLk [] er) := by
  have HM := Lib.hid hm
  clear hm
  have HA := Lib.hid hA
  have HC := Lib.hid hC
  clear hA hC
  have hmb : mb < w.heap.size := World.block_lt_of_cell? w _ m0
  obtain ⟨rs, rq⟩ := fr_rows2 w (.cells k.cells 27) (.cells #[.int .u8 0, .int .u8 0, .int .u8 0, .int .u8 0, .int .u8 0, .int .u8 0, .int .u8 0, .int .u8 0, .int .u8 0, .int .u8 0, .int .u8 0, .int .u8 0, .int .u8 0, .int .i64 0, .int .i64 0, .int .i64 0, .int .i64 0] 27)
  have R0 := Lib.hid rs
  have Q0 := Lib.hid rq
  have HIK := Lib.hid (link_info2 k)
  have HIZ := Lib.hid link_infoZ
  clear rs rq
  go_enter Try.func20, Try.ntmps20
  go_wp2_with (with_reducible refine wpList_load_row rfl 27 (.tmp 3) rfl w.heap.size rfl 27 k.cells (0, 0) _ R0.out Try.underlying27 rfl HIK.out ?_)
  refine (begun_ok k hB now h ht _).mono ?_
  rintro e w1 ⟨b, rfl, hE, hb, hB1⟩
  have HE := Lib.hid hE
  have hbz : w.heap.size + 1 + 1 ≤ b := by simpa only [World.size_alloc] using hb
  have RS := Lib.hid (row_below hB1 R0.out)
  have RQ1 := Lib.hid (row_below hB1 Q0.out)
  have HB1 := Lib.hid ((((Below.refl w.heap.size w).alloc (Nat.le_refl _) _).alloc (by simp only [World.size_alloc]; omega) _).trans (hB1.mono (by simp only [World.size_alloc]; omega)))
  have M0 := Lib.hid (below_kept hB1 (below_kept ((Below.refl _ _).alloc (Nat.le_refl _) _) (below_kept ((Below.refl _ _).alloc (Nat.le_refl _) _) m0)))
  have M1 := Lib.hid (below_kept hB1 (below_kept ((Below.refl _ _).alloc (Nat.le_refl _) _) (below_kept ((Below.refl _ _).alloc (Nat.le_refl _) _) m1)))
  have M2 := Lib.hid (below_kept hB1 (below_kept ((Below.refl _ _).alloc (Nat.le_refl _) _) (below_kept ((Below.refl _ _).alloc (Nat.le_refl _) _) m2)))
  have M3 := Lib.hid (below_kept hB1 (below_kept ((Below.refl _ _).alloc (Nat.le_refl _) _) (below_kept ((Below.refl _ _).alloc (Nat.le_refl _) _) m3)))
  have M4 := Lib.hid (below_kept hB1 (below_kept ((Below.refl _ _).alloc (Nat.le_refl _) _) (below_kept ((Below.refl _ _).alloc (Nat.le_refl _) _) m4)))
  clear hmb m0 m1 m2 m3 m4
  clear hE hB1 R0 Q0 hb
  have s12 : w1.cell? ⟨w.heap.size, 12, none⟩ = some (.int .u8 k.st) := (cell_of_row _ _ _ _ _ _ RS.out).trans (lk_st k)
  have s15 : w1.cell? ⟨w.heap.size, 15, none⟩ = some (.int .i64 k.tr) := (cell_of_row _ _ _ _ _ _ RS.out).trans (lk_tr k)
  have s16 : w1.cell? ⟨w.heap.size, 16, none⟩ = some (.int .i64 k.du) := (cell_of_row _ _ _ _ _ _ RS.out).trans (lk_du k)
  have m0w1 : w1.cell? ⟨mb, mo, none⟩ = some (.int .u8 3) := M0.out
  have m1w1 : w1.cell? ⟨mb, mo + 1, none⟩ = some (.int .u8 x1) := M1.out
  have m2w1 : w1.cell? ⟨mb, mo + 2, none⟩ = some (.int .u8 x2) := M2.out
  have m3w1 : w1.cell? ⟨mb, mo + 3, none⟩ = some (.int .u8 x3) := M3.out
  have m4w1 : w1.cell? ⟨mb, mo + 4, none⟩ = some (.int .u8 x4) := M4.out
  have my1 : mb < w1.heap.size := World.block_lt_of_cell? _ _ m0w1
  clear s15 s16
  clear s12
  go_wp2_with fail
  go_region
  simp only [HA.out, HC.out]
  have RQ1 := Lib.hid (row_drew RQ1.out)
  have HB1 := Lib.hid HB1.out.drew
  have RS := Lib.hid (row_drew RS.out)
  have HE := Lib.hid (show EndAt w1.drew b k now [] from HE.out)
  go_wp2_with fail
  refine (HM.out _ _ HE.out).mono ?_
  rintro e w2 ⟨rfl, hE2, hb2⟩
  have HE2 := Lib.hid hE2
  have RQ2 := Lib.hid (show w2.heap[w.heap.size + 1]? = some (.cells #[.int .u8 0, .int .u8 0, .int .u8 0, .int .u8 0, .int .u8 0, .int .u8 0, .int .u8 0, .int .u8 0, .int .u8 0, .int .u8 0, .int .u8 0, .int .u8 0, .int .u8 0, .int .i64 0, .int .i64 0, .int .i64 0, .int .i64 0] 27) from (hb2.block _ (by omega)).trans RQ1.out)
  have HB2 := Lib.hid (HB1.out.trans (hb2.mono (by omega)))
  have RS2 := Lib.hid (show w2.heap[w.heap.size]? = some (.cells k.cells 27) from (hb2.block _ (by omega)).trans RS.out)
  clear hE2 hb2
  clear m0w1 m1w1 m2w1 m3w1 m4w1 my1
  go_wp2_with ((with_reducible refine wpList_store_rowTo rfl 27 (.tmp 6) (.tmp 97) rfl rfl (w.heap.size + 1) #[.int .u8 0, .int .u8 0, .int .u8 0, .int .u8 0, .int .u8 0, .int .u8 0, .int .u8 0, .int .u8 0, .int .u8 0, .int .u8 0, .int .u8 0, .int .u8 0, .int .u8 0, .int .i64 0, .int .i64 0, .int .i64 0, .int .i64 0] ?_ ?_ 27 #[.int .u8 0, .int .u8 0, .int .u8 0, .int .u8 0, .int .u8 0, .int .u8 0, .int .u8 0, .int .u8 0, .int .u8 0, .int .u8 0, .int .u8 0, .int .u8 0, .int .u8 0, .int .i64 0, .int .i64 0, .int .i64 0, .int .i64 0] RQ2.out HIZ.out rfl zl_one ?_); (as_aux_lemma => kernel_rfl); (as_aux_lemma => kernel_rfl))
  refine bodyPost_ret (results_row3 rfl _ _ (w.heap.size + 1) 27 #[.int .u8 0, .int .u8 0, .int .u8 0, .int .u8 0, .int .u8 0, .int .u8 0, .int .u8 0, .int .u8 0, .int .u8 0, .int .u8 0, .int .u8 0, .int .u8 0, .int .u8 0, .int .i64 0, .int .i64 0, .int .i64 0, .int .i64 0] (0, 0) _ rfl (setRow_heap _ _ _ _ _ _ RQ2.out) Try.underlying27 rfl HIZ.out) rfl ?_
  exact ⟨_, rfl, outAt_nil _ _, below_setRow' HB2.out (by omega) _⟩
end Go.Proofs.Ytmighkgjbohieaa
