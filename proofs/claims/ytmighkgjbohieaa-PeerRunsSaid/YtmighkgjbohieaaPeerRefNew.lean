/-
  The reference's New; New of both for all arguments.
-/
import Derived.Test.YtmighkgjbohieaaPeerNew
set_option linter.unusedVariables false
set_option linter.unusedSimpArgs false
namespace Go.Proofs.Ytmighkgjbohieaa
open Go.ChangeShapes Go.WideShapes Go.ChangeAt Go.RowKit Go.Great

set_option maxHeartbeats 2000000 in
theorem rnew_same (o0 o1 o2 o3 o4 o5 p0 p1 p2 p3 p4 p5 id : Int) (ho0 : 0 ≤ o0 ∧ o0 ≤ 255) (ho1 : 0 ≤ o1 ∧ o1 ≤ 255) (ho2 : 0 ≤ o2 ∧ o2 ≤ 255) (ho3 : 0 ≤ o3 ∧ o3 ≤ 255) (ho4 : 0 ≤ o4 ∧ o4 ≤ 255) (ho5 : 0 ≤ o5 ∧ o5 ≤ 255) (hp0 : 0 ≤ p0 ∧ p0 ≤ 255) (hp1 : 0 ≤ p1 ∧ p1 ≤ 255) (hp2 : 0 ≤ p2 ∧ p2 ≤ 255) (hp3 : 0 ≤ p3 ∧ p3 ≤ 255) (hp4 : 0 ≤ p4 ∧ p4 ≤ 255) (hp5 : 0 ≤ p5 ∧ p5 ≤ 255) (hs : addrB o0 o1 o2 o3 o4 o5 p0 p1 p2 p3 p4 p5 = true) (w : World) : Calls Try.prog 31 #[.agg #[.int .u8 o0, .int .u8 o1, .int .u8 o2, .int .u8 o3, .int .u8 o4, .int .u8 o5], .agg #[.int .u8 p0, .int .u8 p1, .int .u8 p2, .int .u8 p3, .int .u8 p4, .int .u8 p5], .int .i64 id] w fun e w' => e = .returned (.tuple #[.agg zeroLk.cells, .int .i64 2]) ∧ Below w.heap.size w w' := by
  have E := eql_addr o0 o1 o2 o3 o4 o5 p0 p1 p2 p3 p4 p5 ho0 ho1 ho2 ho3 ho4 ho5 hp0 hp1 hp2 hp3 hp4 hp5
  rw [hs] at E
  clear hs ho0 ho1 ho2 ho3 ho4 ho5 hp0 hp1 hp2 hp3 hp4 hp5
  obtain ⟨_, _, rq⟩ := fr_rows3 w (.cells #[.int .u8 o0, .int .u8 o1, .int .u8 o2, .int .u8 o3, .int .u8 o4, .int .u8 o5] 25) (.cells #[.int .u8 p0, .int .u8 p1, .int .u8 p2, .int .u8 p3, .int .u8 p4, .int .u8 p5] 25) (.cells #[.int .u8 0, .int .u8 0, .int .u8 0, .int .u8 0, .int .u8 0, .int .u8 0, .int .u8 0, .int .u8 0, .int .u8 0, .int .u8 0, .int .u8 0, .int .u8 0, .int .u8 0, .int .i64 0, .int .i64 0, .int .i64 0, .int .i64 0] 27)
  have RQ := Lib.hid rq
  have HIZ := Lib.hid link_infoZ
  clear rq
  have HI2 := HIZ
  have HO := Lib.hid zl_one
  go_enter Try.func31, Try.ntmps31
  go_wp2_with ((with_reducible refine wpList_store_rowTo rfl 27 (.tmp 6) (.tmp 19) rfl rfl (w.heap.size + 1 + 1) #[.int .u8 0, .int .u8 0, .int .u8 0, .int .u8 0, .int .u8 0, .int .u8 0, .int .u8 0, .int .u8 0, .int .u8 0, .int .u8 0, .int .u8 0, .int .u8 0, .int .u8 0, .int .i64 0, .int .i64 0, .int .i64 0, .int .i64 0] ?_ ?_ 27 #[.int .u8 0, .int .u8 0, .int .u8 0, .int .u8 0, .int .u8 0, .int .u8 0, .int .u8 0, .int .u8 0, .int .u8 0, .int .u8 0, .int .u8 0, .int .u8 0, .int .u8 0, .int .i64 0, .int .i64 0, .int .i64 0, .int .i64 0] RQ.out HI2.out rfl HO.out ?_); (as_aux_lemma => kernel_rfl); (as_aux_lemma => kernel_rfl))
  refine bodyPost_ret (results_row2 rfl _ _ (w.heap.size + 1 + 1) 27 #[.int .u8 0, .int .u8 0, .int .u8 0, .int .u8 0, .int .u8 0, .int .u8 0, .int .u8 0, .int .u8 0, .int .u8 0, .int .u8 0, .int .u8 0, .int .u8 0, .int .u8 0, .int .i64 0, .int .i64 0, .int .i64 0, .int .i64 0] (0, 0) _ rfl (setRow_heap _ _ _ _ _ _ RQ.out) Try.underlying27 rfl HI2.out) rfl ?_
  exact ⟨rfl, below_setRow' ((((Below.refl w.heap.size w).alloc (Nat.le_refl _) _).alloc (by simp only [World.size_alloc]; omega) _).alloc (by simp only [World.size_alloc]; omega) _) (by omega) _⟩
set_option maxHeartbeats 2000000 in
theorem rnew_range (o0 o1 o2 o3 o4 o5 p0 p1 p2 p3 p4 p5 id : Int) (ho0 : 0 ≤ o0 ∧ o0 ≤ 255) (ho1 : 0 ≤ o1 ∧ o1 ≤ 255) (ho2 : 0 ≤ o2 ∧ o2 ≤ 255) (ho3 : 0 ≤ o3 ∧ o3 ≤ 255) (ho4 : 0 ≤ o4 ∧ o4 ≤ 255) (ho5 : 0 ≤ o5 ∧ o5 ≤ 255) (hp0 : 0 ≤ p0 ∧ p0 ≤ 255) (hp1 : 0 ≤ p1 ∧ p1 ≤ 255) (hp2 : 0 ≤ p2 ∧ p2 ≤ 255) (hp3 : 0 ≤ p3 ∧ p3 ≤ 255) (hp4 : 0 ≤ p4 ∧ p4 ≤ 255) (hp5 : 0 ≤ p5 ∧ p5 ≤ 255) (hs : addrB o0 o1 o2 o3 o4 o5 p0 p1 p2 p3 p4 p5 = false) (hr : id < 1 ∨ (1 ≤ id ∧ 65535 < id)) (w : World) : Calls Try.prog 31 #[.agg #[.int .u8 o0, .int .u8 o1, .int .u8 o2, .int .u8 o3, .int .u8 o4, .int .u8 o5], .agg #[.int .u8 p0, .int .u8 p1, .int .u8 p2, .int .u8 p3, .int .u8 p4, .int .u8 p5], .int .i64 id] w fun e w' => e = .returned (.tuple #[.agg zeroLk.cells, .int .i64 2]) ∧ Below w.heap.size w w' := by
  have E := eql_addr o0 o1 o2 o3 o4 o5 p0 p1 p2 p3 p4 p5 ho0 ho1 ho2 ho3 ho4 ho5 hp0 hp1 hp2 hp3 hp4 hp5
  rw [hs] at E
  clear hs ho0 ho1 ho2 ho3 ho4 ho5 hp0 hp1 hp2 hp3 hp4 hp5
  obtain ⟨_, _, rq⟩ := fr_rows3 w (.cells #[.int .u8 o0, .int .u8 o1, .int .u8 o2, .int .u8 o3, .int .u8 o4, .int .u8 o5] 25) (.cells #[.int .u8 p0, .int .u8 p1, .int .u8 p2, .int .u8 p3, .int .u8 p4, .int .u8 p5] 25) (.cells #[.int .u8 0, .int .u8 0, .int .u8 0, .int .u8 0, .int .u8 0, .int .u8 0, .int .u8 0, .int .u8 0, .int .u8 0, .int .u8 0, .int .u8 0, .int .u8 0, .int .u8 0, .int .i64 0, .int .i64 0, .int .i64 0, .int .i64 0] 27)
  have RQ := Lib.hid rq
  have HIZ := Lib.hid link_infoZ
  clear rq
  have HI2 := HIZ
  have HO := Lib.hid zl_one
  rcases hr with hr | ⟨hr, hr2⟩
  all_goals
    go_enter Try.func31, Try.ntmps31
    go_wp2_with ((with_reducible refine wpList_store_rowTo rfl 27 (.tmp 6) (.tmp 19) rfl rfl (w.heap.size + 1 + 1) #[.int .u8 0, .int .u8 0, .int .u8 0, .int .u8 0, .int .u8 0, .int .u8 0, .int .u8 0, .int .u8 0, .int .u8 0, .int .u8 0, .int .u8 0, .int .u8 0, .int .u8 0, .int .i64 0, .int .i64 0, .int .i64 0, .int .i64 0] ?_ ?_ 27 #[.int .u8 0, .int .u8 0, .int .u8 0, .int .u8 0, .int .u8 0, .int .u8 0, .int .u8 0, .int .u8 0, .int .u8 0, .int .u8 0, .int .u8 0, .int .u8 0, .int .u8 0, .int .i64 0, .int .i64 0, .int .i64 0, .int .i64 0] RQ.out HI2.out rfl HO.out ?_); (as_aux_lemma => kernel_rfl); (as_aux_lemma => kernel_rfl))
    refine bodyPost_ret (results_row2 rfl _ _ (w.heap.size + 1 + 1) 27 #[.int .u8 0, .int .u8 0, .int .u8 0, .int .u8 0, .int .u8 0, .int .u8 0, .int .u8 0, .int .u8 0, .int .u8 0, .int .u8 0, .int .u8 0, .int .u8 0, .int .u8 0, .int .i64 0, .int .i64 0, .int .i64 0, .int .i64 0] (0, 0) _ rfl (setRow_heap _ _ _ _ _ _ RQ.out) Try.underlying27 rfl HI2.out) rfl ?_
    exact ⟨rfl, below_setRow' ((((Below.refl w.heap.size w).alloc (Nat.le_refl _) _).alloc (by simp only [World.size_alloc]; omega) _).alloc (by simp only [World.size_alloc]; omega) _) (by omega) _⟩
set_option maxHeartbeats 2000000 in
theorem rnew_ok (o0 o1 o2 o3 o4 o5 p0 p1 p2 p3 p4 p5 id : Int) (ho0 : 0 ≤ o0 ∧ o0 ≤ 255) (ho1 : 0 ≤ o1 ∧ o1 ≤ 255) (ho2 : 0 ≤ o2 ∧ o2 ≤ 255) (ho3 : 0 ≤ o3 ∧ o3 ≤ 255) (ho4 : 0 ≤ o4 ∧ o4 ≤ 255) (ho5 : 0 ≤ o5 ∧ o5 ≤ 255) (hp0 : 0 ≤ p0 ∧ p0 ≤ 255) (hp1 : 0 ≤ p1 ∧ p1 ≤ 255) (hp2 : 0 ≤ p2 ∧ p2 ≤ 255) (hp3 : 0 ≤ p3 ∧ p3 ≤ 255) (hp4 : 0 ≤ p4 ∧ p4 ≤ 255) (hp5 : 0 ≤ p5 ∧ p5 ≤ 255) (hs : addrB o0 o1 o2 o3 o4 o5 p0 p1 p2 p3 p4 p5 = false) (h1 : 1 ≤ id) (h2 : id ≤ 65535) (w : World) : Calls Try.prog 31 #[.agg #[.int .u8 o0, .int .u8 o1, .int .u8 o2, .int .u8 o3, .int .u8 o4, .int .u8 o5], .agg #[.int .u8 p0, .int .u8 p1, .int .u8 p2, .int .u8 p3, .int .u8 p4, .int .u8 p5], .int .i64 id] w fun e w' => e = .returned (.tuple #[.agg (newK o0 o1 o2 o3 o4 o5 p0 p1 p2 p3 p4 p5 id).cells, .int .i64 0]) ∧ Below w.heap.size w w' := by
  have E := eql_addr o0 o1 o2 o3 o4 o5 p0 p1 p2 p3 p4 p5 ho0 ho1 ho2 ho3 ho4 ho5 hp0 hp1 hp2 hp3 hp4 hp5
  rw [hs] at E
  clear hs ho0 ho1 ho2 ho3 ho4 ho5 hp0 hp1 hp2 hp3 hp4 hp5
  obtain ⟨_, _, rq⟩ := fr_rows3 w (.cells #[.int .u8 o0, .int .u8 o1, .int .u8 o2, .int .u8 o3, .int .u8 o4, .int .u8 o5] 25) (.cells #[.int .u8 p0, .int .u8 p1, .int .u8 p2, .int .u8 p3, .int .u8 p4, .int .u8 p5] 25) (.cells #[.int .u8 0, .int .u8 0, .int .u8 0, .int .u8 0, .int .u8 0, .int .u8 0, .int .u8 0, .int .u8 0, .int .u8 0, .int .u8 0, .int .u8 0, .int .u8 0, .int .u8 0, .int .i64 0, .int .i64 0, .int .i64 0, .int .i64 0] 27)
  have RQ := Lib.hid rq
  have HIZ := Lib.hid link_infoZ
  clear rq
  have HI2 := Lib.hid (link_info2 (newK o0 o1 o2 o3 o4 o5 p0 p1 p2 p3 p4 p5 id))
  have HO := Lib.hid (one_cells (newK o0 o1 o2 o3 o4 o5 p0 p1 p2 p3 p4 p5 id))
  go_enter Try.func31, Try.ntmps31
  go_wp2_with (first
    | (with_reducible refine wpList_runTo rfl (some 23) rfl (.agg (newK o0 o1 o2 o3 o4 o5 p0 p1 p2 p3 p4 p5 id).cells) (((w.alloc (.cells #[.int .u8 o0, .int .u8 o1, .int .u8 o2, .int .u8 o3, .int .u8 o4, .int .u8 o5] 25)).alloc (.cells #[.int .u8 p0, .int .u8 p1, .int .u8 p2, .int .u8 p3, .int .u8 p4, .int .u8 p5] 25)).alloc (.cells #[.int .u8 0, .int .u8 0, .int .u8 0, .int .u8 0, .int .u8 0, .int .u8 0, .int .u8 0, .int .u8 0, .int .u8 0, .int .u8 0, .int .u8 0, .int .u8 0, .int .u8 0, .int .i64 0, .int .i64 0, .int .i64 0, .int .i64 0] 27)) (by as_aux_lemma => kernel_rfl) ?_; simp only [Act.put, List.setIfInBounds_toArray, List.set_cons_succ, List.set_cons_zero])
    | ((with_reducible refine wpList_store_rowTo rfl 27 (.tmp 6) (.tmp 23) rfl rfl (w.heap.size + 1 + 1) (newK o0 o1 o2 o3 o4 o5 p0 p1 p2 p3 p4 p5 id).cells ?_ ?_ 27 #[.int .u8 0, .int .u8 0, .int .u8 0, .int .u8 0, .int .u8 0, .int .u8 0, .int .u8 0, .int .u8 0, .int .u8 0, .int .u8 0, .int .u8 0, .int .u8 0, .int .u8 0, .int .i64 0, .int .i64 0, .int .i64 0, .int .i64 0] RQ.out HI2.out rfl HO.out ?_); (as_aux_lemma => kernel_rfl); (as_aux_lemma => kernel_rfl)))
  refine bodyPost_ret (results_row2 rfl _ _ (w.heap.size + 1 + 1) 27 (newK o0 o1 o2 o3 o4 o5 p0 p1 p2 p3 p4 p5 id).cells (0, 0) _ rfl (setRow_heap _ _ _ _ _ _ RQ.out) Try.underlying27 rfl HI2.out) rfl ?_
  exact ⟨rfl, below_setRow' ((((Below.refl w.heap.size w).alloc (Nat.le_refl _) _).alloc (by simp only [World.size_alloc]; omega) _).alloc (by simp only [World.size_alloc]; omega) _) (by omega) _⟩
/-- What New comes to. -/
def pNew (k : Lk) : Lk × Int := if k.same = true ∨ k.id < 1 ∨ 65535 < k.id then (zeroLk, 2) else (newK k.o0 k.o1 k.o2 k.o3 k.o4 k.o5 k.p0 k.p1 k.p2 k.p3 k.p4 k.p5 k.id, 0)
theorem new_any (k : Lk) (hB : k.By) (w : World) : Calls Try.prog 24 #[.agg #[.int .u8 k.o0, .int .u8 k.o1, .int .u8 k.o2, .int .u8 k.o3, .int .u8 k.o4, .int .u8 k.o5], .agg #[.int .u8 k.p0, .int .u8 k.p1, .int .u8 k.p2, .int .u8 k.p3, .int .u8 k.p4, .int .u8 k.p5], .int .i64 k.id] w fun e w' => e = .returned (.tuple #[.agg (pNew k).1.cells, .int .i64 (pNew k).2]) ∧ Below w.heap.size w w' := by
  by_cases hs : k.same = true
  · rw [show pNew k = (zeroLk, 2) by rw [pNew, if_pos (.inl hs)]]
    exact new_same k.o0 k.o1 k.o2 k.o3 k.o4 k.o5 k.p0 k.p1 k.p2 k.p3 k.p4 k.p5 k.id hB.o0 hB.o1 hB.o2 hB.o3 hB.o4 hB.o5 hB.p0 hB.p1 hB.p2 hB.p3 hB.p4 hB.p5 hs w
  · by_cases hi : k.id < 1 ∨ 65535 < k.id
    · rw [show pNew k = (zeroLk, 2) by rw [pNew, if_pos (.inr hi)]]
      exact new_range k.o0 k.o1 k.o2 k.o3 k.o4 k.o5 k.p0 k.p1 k.p2 k.p3 k.p4 k.p5 k.id hB.o0 hB.o1 hB.o2 hB.o3 hB.o4 hB.o5 hB.p0 hB.p1 hB.p2 hB.p3 hB.p4 hB.p5 (Bool.eq_false_iff.2 hs) (by omega) w
    · rw [show pNew k = (newK k.o0 k.o1 k.o2 k.o3 k.o4 k.o5 k.p0 k.p1 k.p2 k.p3 k.p4 k.p5 k.id, 0) by rw [pNew, if_neg (fun e => e.elim hs hi)]]
      exact new_ok k.o0 k.o1 k.o2 k.o3 k.o4 k.o5 k.p0 k.p1 k.p2 k.p3 k.p4 k.p5 k.id hB.o0 hB.o1 hB.o2 hB.o3 hB.o4 hB.o5 hB.p0 hB.p1 hB.p2 hB.p3 hB.p4 hB.p5 (Bool.eq_false_iff.2 hs) (by omega) (by omega) w
theorem rnew_any (k : Lk) (hB : k.By) (w : World) : Calls Try.prog 31 #[.agg #[.int .u8 k.o0, .int .u8 k.o1, .int .u8 k.o2, .int .u8 k.o3, .int .u8 k.o4, .int .u8 k.o5], .agg #[.int .u8 k.p0, .int .u8 k.p1, .int .u8 k.p2, .int .u8 k.p3, .int .u8 k.p4, .int .u8 k.p5], .int .i64 k.id] w fun e w' => e = .returned (.tuple #[.agg (pNew k).1.cells, .int .i64 (pNew k).2]) ∧ Below w.heap.size w w' := by
  by_cases hs : k.same = true
  · rw [show pNew k = (zeroLk, 2) by rw [pNew, if_pos (.inl hs)]]
    exact rnew_same k.o0 k.o1 k.o2 k.o3 k.o4 k.o5 k.p0 k.p1 k.p2 k.p3 k.p4 k.p5 k.id hB.o0 hB.o1 hB.o2 hB.o3 hB.o4 hB.o5 hB.p0 hB.p1 hB.p2 hB.p3 hB.p4 hB.p5 hs w
  · by_cases hi : k.id < 1 ∨ 65535 < k.id
    · rw [show pNew k = (zeroLk, 2) by rw [pNew, if_pos (.inr hi)]]
      exact rnew_range k.o0 k.o1 k.o2 k.o3 k.o4 k.o5 k.p0 k.p1 k.p2 k.p3 k.p4 k.p5 k.id hB.o0 hB.o1 hB.o2 hB.o3 hB.o4 hB.o5 hB.p0 hB.p1 hB.p2 hB.p3 hB.p4 hB.p5 (Bool.eq_false_iff.2 hs) (by omega) w
    · rw [show pNew k = (newK k.o0 k.o1 k.o2 k.o3 k.o4 k.o5 k.p0 k.p1 k.p2 k.p3 k.p4 k.p5 k.id, 0) by rw [pNew, if_neg (fun e => e.elim hs hi)]]
      exact rnew_ok k.o0 k.o1 k.o2 k.o3 k.o4 k.o5 k.p0 k.p1 k.p2 k.p3 k.p4 k.p5 k.id hB.o0 hB.o1 hB.o2 hB.o3 hB.o4 hB.o5 hB.p0 hB.p1 hB.p2 hB.p3 hB.p4 hB.p5 (Bool.eq_false_iff.2 hs) (by omega) (by omega) w
end Go.Proofs.Ytmighkgjbohieaa
