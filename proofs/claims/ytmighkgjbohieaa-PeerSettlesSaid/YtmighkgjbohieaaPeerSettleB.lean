/-
  PeerSettles: the walk for all arguments.
-/
import Derived.Test.YtmighkgjbohieaaPeerSettle
set_option linter.unusedVariables false
set_option linter.unusedSimpArgs false
namespace Go.Proofs.Ytmighkgjbohieaa.peerSettles
open Go.ChangeShapes Go.WideShapes Go.ChangeAt Go.RowKit Go.Great

theorem ends_in {id other : Int} (hi : 1 ≤ id ∧ id ≤ 65535) (ho : 1 ≤ other ∧ other ≤ 65535) (w : World) : Calls Try.prog 11 #[.int .i64 id, .int .i64 other] w fun e w' => e = .returned (.tuple #[.agg (pairCells (LA 0 id 0 0 0) (LB 0 other 0 0 0)), .bool true]) ∧ Below w.heap.size w w' := by
  have h := ends_any id other w
  rw [k0_is hi, k1_is ho, show (inB id && inB other) = true by rw [inB, inB, btw_iff.2 hi, btw_iff.2 ho]; rfl] at h
  exact h
set_option maxRecDepth 100000 in
set_option maxHeartbeats 4000000 in
theorem out (id other closer : Int) (both : Bool) (hx : (inB id && inB other) = false) (w : World) : Calls Try.prog 4 #[.int .i64 id, .int .i64 other, .bool both, .int .u8 closer] w fun e w' => e = .returned (.bool true) ∧ Below w.heap.size w w' := by
  have HC := Lib.hid (ends_any id other)
  rw [hx] at HC
  have HIP := Lib.hid (pair_info (k0 id) (k1 other))
  go_enter Try.func4, Try.ntmps4
  go_wp2_with (fail)
  refine (alive_any _).mono ?_
  rintro e w1 ⟨rfl, hb⟩
  have HBw1 := Lib.hid (below_step (Below.refl w.heap.size w) hb)
  clear hb
  go_wp2_with (fail)
  refine (HC.out _).mono ?_
  rintro e w2 ⟨rfl, hb⟩
  have HBw2 := Lib.hid (below_step HBw1.out hb)
  clear hb
  go_wp2_with (first
    | (with_reducible refine wpList_runTo rfl (some 10) rfl (.pointer (some ⟨w2.heap.size, 0, none⟩)) (w2.alloc (.cells zp 28)) (by as_aux_lemma => kernel_rfl) ?_; simp only [Act.put, List.setIfInBounds_toArray, List.set_cons_succ, List.set_cons_zero])
    | ((with_reducible refine wpList_store_rowTo rfl 28 (.tmp 10) (.tmp 32) rfl rfl (w2.heap.size) (pairCells (k0 id) (k1 other)) ?_ ?_ 28 zp (heap_alloc_at rfl) HIP.out rfl (pair_one _ _) ?_); (as_aux_lemma => kernel_rfl); (as_aux_lemma => kernel_rfl); rw [setRow_allocAt rfl]))
  go_ret
  exact ⟨rfl, below_more HBw2.out _⟩
theorem walk (id other : Int) (both : Bool) (closer : Int) (_ : -9223372036854775808 ≤ id ∧ id ≤ 9223372036854775807) (_ : -9223372036854775808 ≤ other ∧ other ≤ 9223372036854775807) (hc : 0 ≤ closer ∧ closer ≤ 255) (w : World) :
    Calls Try.prog 4 #[.int .i64 id, .int .i64 other, .bool both, .int .u8 closer] w fun e w' => e = .returned (.bool true) ∧ Below w.heap.size w w' := by
  by_cases hi : 1 ≤ id ∧ id ≤ 65535
  · by_cases ho : 1 ≤ other ∧ other ≤ 65535
    · have z0 : (0 : Int) ≤ 0 := by decide
      have z1 : (0 : Int) ≤ 1000000000 := by decide
      have t0 : (0 : Int) ≤ 10 := by decide
      have t1 : (10 : Int) ≤ 1000000000 := by decide
      have q0 : (0 : Int) ≤ 40010 := by decide
      have q1 : (40010 : Int) ≤ 1000000000 := by decide
      have d1 : (1 : Int) ≤ 10 + 40000 ∧ (10 : Int) + 40000 ≤ 1099511667776 := by decide
      have e1 := msgOf_ok 1 id 0 (by decide)
      have e2 := msgOf_ok 1 other 0 (by decide)
      have e3 := msgOf_ok 3 id other (by decide)
      have e4 := msgOf_ok 3 other id (by decide)
      have cS := fun w => ret_of (a_start (now := 0) hi z0 z1) (start_any (LA 0 id 0 0 0) LA_by 0 w)
      have cT := fun w => ret_of (b_start (now := 0) ho z0 z1) (start_any (LB 0 other 0 0 0) LB_by 0 w)
      have cA := fun w => ret_of (a_close (now := 10) hi ho t0 t1) (close_any (LA 4 id other 0 0) LA_by 10 w)
      have cB := fun w => ret_of (b_close (now := 10) hi ho t0 t1) (close_any (LB 4 other id 0 0) LB_by 10 w)
      have sA := fun w mv hm => ret_of (a_shut4 (now := 10) hi ho t0 t1) (handle_any (LA 4 id other 0 0) LA_by 10 mv (msgOf 3 other id) w hm)
      have sB := fun w mv hm => ret_of (b_shut4 (now := 10) hi ho t0 t1) (handle_any (LB 4 other id 0 0) LB_by 10 mv (msgOf 3 id other) w hm)
      have uA := fun w mv hm => ret_of (a_shut5 (now := 10) (du := 10 + 40000) hi ho t0 t1 d1) (handle_any (LA 5 id other 0 (10 + 40000)) LA_by 10 mv (msgOf 3 other id) w hm)
      have uB := fun w mv hm => ret_of (b_shut5 (now := 10) (du := 10 + 40000) hi ho t0 t1 d1) (handle_any (LB 5 other id 0 (10 + 40000)) LB_by 10 mv (msgOf 3 id other) w hm)
      have kA := fun w => ret_of (a_tick5 (now := 40010) (du := 10 + 40000) hi (by omega) q0 q1 d1 (by decide)) (tick_any (LA 5 id other 0 (10 + 40000)) LA_by 40010 w)
      have kB := fun w => ret_of (b_tick5 (now := 40010) (du := 10 + 40000) hi ho q0 q1 d1 (by decide)) (tick_any (LB 5 other id 0 (10 + 40000)) LB_by 40010 w)
      have hcc : closer % 2 = 0 ∨ closer % 2 = 1 := by omega
      cases both with
      | false =>
        rcases hcc with hcl | hcl
        · exact settles_00 id other closer hcl hc hi ho _ _ _ _ _ _ _ _ _ _ _ _ _ _ e1 e2 e3 e4 LA_by LB_by (ends_in hi ho) cS cT (pass_one hi ho) pair_up cA sB rfl uA kB rfl rfl rfl rfl rfl rfl w
        · exact settles_01 id other closer hcl hc hi ho _ _ _ _ _ _ _ _ _ _ _ _ _ _ e1 e2 e4 e3 LA_by LB_by (ends_in hi ho) cS cT (pass_one hi ho) pair_up cB sA rfl uB kA rfl rfl rfl rfl rfl rfl w
      | true =>
        rcases hcc with hcl | hcl
        · exact settles_10 id other closer hcl hc hi ho _ _ _ _ _ _ _ _ _ _ _ _ _ _ e1 e2 e3 e4 LA_by LB_by (ends_in hi ho) cS cT (pass_two hi ho) pair_up cA sB rfl uA kB rfl rfl rfl rfl rfl rfl w
        · exact settles_11 id other closer hcl hc hi ho _ _ _ _ _ _ _ _ _ _ _ _ _ _ e1 e2 e4 e3 LA_by LB_by (ends_in hi ho) cS cT (pass_two hi ho) pair_up cB sA rfl uB kA rfl rfl rfl rfl rfl rfl w
    · exact out id other closer both (by rw [inB, inB, btw_no ho, Bool.and_false]) w
  · exact out id other closer both (by rw [inB, btw_no hi, Bool.false_and]) w
end Go.Proofs.Ytmighkgjbohieaa.peerSettles
