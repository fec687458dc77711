/-
  The contracts of peer's New and Up, of the law's one, two, and of the reference's messages Open, Confirm, Shut.
-/
import Derived.Test.YtmighkgjbohieaaPeerSpecH
set_option linter.unusedVariables false
set_option linter.unusedSimpArgs false
namespace Go.Proofs.Ytmighkgjbohieaa
open Go.ChangeShapes Go.WideShapes Go.ChangeAt Go.RowKit Go.Great

/-- A new link between two addresses. -/
def newK (o0 o1 o2 o3 o4 o5 p0 p1 p2 p3 p4 p5 id : Int) : Lk := ⟨o0, o1, o2, o3, o4, o5, p0, p1, p2, p3, p4, p5, 0, id, 0, 0, 0⟩
theorem results_row2 {P : Program} {fn : Func} {p t1 : Tmp} {ty : TypeId} (h : fn.results = #[.cell p ty, .tmp t1]) (tmps : Array Value) (w : World) (g : Nat) (t : TypeId) (cs : Array Value) (fr : Nat × Nat) (d : TypeDesc)
    (hp : tmps.getD p undef = .pointer (some ⟨g, 0, none⟩)) (hg : w.heap[g]? = some (.cells cs t fr))
    (hu : P.underlying ty = some d) (hd : (match d with | .struct _ | .array _ _ => true | _ => false) = true) (hi : (P.info? ty).map (·.size) = some cs.size) :
    (results fn tmps).run P w = .ok (.tuple #[.agg cs, tmps.getD t1 undef]) w := by
  have hp' : tmps[p]?.getD undef = .pointer (some ⟨g, 0, none⟩) := by simpa using hp
  simp [results, h, hp', asAddr, run_loadVar_row w g t ty cs fr d hg hu hd hi, Sem.run_bind]
set_option maxHeartbeats 2000000 in
theorem new_same (o0 o1 o2 o3 o4 o5 p0 p1 p2 p3 p4 p5 id : Int) (ho0 : 0 ≤ o0 ∧ o0 ≤ 255) (ho1 : 0 ≤ o1 ∧ o1 ≤ 255) (ho2 : 0 ≤ o2 ∧ o2 ≤ 255) (ho3 : 0 ≤ o3 ∧ o3 ≤ 255) (ho4 : 0 ≤ o4 ∧ o4 ≤ 255) (ho5 : 0 ≤ o5 ∧ o5 ≤ 255) (hp0 : 0 ≤ p0 ∧ p0 ≤ 255) (hp1 : 0 ≤ p1 ∧ p1 ≤ 255) (hp2 : 0 ≤ p2 ∧ p2 ≤ 255) (hp3 : 0 ≤ p3 ∧ p3 ≤ 255) (hp4 : 0 ≤ p4 ∧ p4 ≤ 255) (hp5 : 0 ≤ p5 ∧ p5 ≤ 255) (hs : addrB o0 o1 o2 o3 o4 o5 p0 p1 p2 p3 p4 p5 = true) (w : World) : Calls Try.prog 24 #[.agg #[.int .u8 o0, .int .u8 o1, .int .u8 o2, .int .u8 o3, .int .u8 o4, .int .u8 o5], .agg #[.int .u8 p0, .int .u8 p1, .int .u8 p2, .int .u8 p3, .int .u8 p4, .int .u8 p5], .int .i64 id] w fun e w' => e = .returned (.tuple #[.agg zeroLk.cells, .int .i64 2]) ∧ Below w.heap.size w w' := by
  have E := eql_addr o0 o1 o2 o3 o4 o5 p0 p1 p2 p3 p4 p5 ho0 ho1 ho2 ho3 ho4 ho5 hp0 hp1 hp2 hp3 hp4 hp5
  rw [hs] at E
  clear hs ho0 ho1 ho2 ho3 ho4 ho5 hp0 hp1 hp2 hp3 hp4 hp5
  obtain ⟨_, _, rq⟩ := fr_rows3 w (.cells #[.int .u8 o0, .int .u8 o1, .int .u8 o2, .int .u8 o3, .int .u8 o4, .int .u8 o5] 25) (.cells #[.int .u8 p0, .int .u8 p1, .int .u8 p2, .int .u8 p3, .int .u8 p4, .int .u8 p5] 25) (.cells #[.int .u8 0, .int .u8 0, .int .u8 0, .int .u8 0, .int .u8 0, .int .u8 0, .int .u8 0, .int .u8 0, .int .u8 0, .int .u8 0, .int .u8 0, .int .u8 0, .int .u8 0, .int .i64 0, .int .i64 0, .int .i64 0, .int .i64 0] 27)
  have RQ := Lib.hid rq
  have HIZ := Lib.hid link_infoZ
  clear rq
  have HI2 := HIZ
  have HO := Lib.hid zl_one
  go_enter Try.func24, Try.ntmps24
  go_wp2_with ((with_reducible refine wpList_store_rowTo rfl 27 (.tmp 6) (.tmp 19) rfl rfl (w.heap.size + 1 + 1) #[.int .u8 0, .int .u8 0, .int .u8 0, .int .u8 0, .int .u8 0, .int .u8 0, .int .u8 0, .int .u8 0, .int .u8 0, .int .u8 0, .int .u8 0, .int .u8 0, .int .u8 0, .int .i64 0, .int .i64 0, .int .i64 0, .int .i64 0] ?_ ?_ 27 #[.int .u8 0, .int .u8 0, .int .u8 0, .int .u8 0, .int .u8 0, .int .u8 0, .int .u8 0, .int .u8 0, .int .u8 0, .int .u8 0, .int .u8 0, .int .u8 0, .int .u8 0, .int .i64 0, .int .i64 0, .int .i64 0, .int .i64 0] RQ.out HI2.out rfl HO.out ?_); (as_aux_lemma => kernel_rfl); (as_aux_lemma => kernel_rfl))
  refine bodyPost_ret (results_row2 rfl _ _ (w.heap.size + 1 + 1) 27 #[.int .u8 0, .int .u8 0, .int .u8 0, .int .u8 0, .int .u8 0, .int .u8 0, .int .u8 0, .int .u8 0, .int .u8 0, .int .u8 0, .int .u8 0, .int .u8 0, .int .u8 0, .int .i64 0, .int .i64 0, .int .i64 0, .int .i64 0] (0, 0) _ rfl (setRow_heap _ _ _ _ _ _ RQ.out) Try.underlying27 rfl HI2.out) rfl ?_
  exact ⟨rfl, below_setRow' ((((Below.refl w.heap.size w).alloc (Nat.le_refl _) _).alloc (by simp only [World.size_alloc]; omega) _).alloc (by simp only [World.size_alloc]; omega) _) (by omega) _⟩
set_option maxHeartbeats 2000000 in
theorem new_range (o0 o1 o2 o3 o4 o5 p0 p1 p2 p3 p4 p5 id : Int) (ho0 : 0 ≤ o0 ∧ o0 ≤ 255) (ho1 : 0 ≤ o1 ∧ o1 ≤ 255) (ho2 : 0 ≤ o2 ∧ o2 ≤ 255) (ho3 : 0 ≤ o3 ∧ o3 ≤ 255) (ho4 : 0 ≤ o4 ∧ o4 ≤ 255) (ho5 : 0 ≤ o5 ∧ o5 ≤ 255) (hp0 : 0 ≤ p0 ∧ p0 ≤ 255) (hp1 : 0 ≤ p1 ∧ p1 ≤ 255) (hp2 : 0 ≤ p2 ∧ p2 ≤ 255) (hp3 : 0 ≤ p3 ∧ p3 ≤ 255) (hp4 : 0 ≤ p4 ∧ p4 ≤ 255) (hp5 : 0 ≤ p5 ∧ p5 ≤ 255) (hs : addrB o0 o1 o2 o3 o4 o5 p0 p1 p2 p3 p4 p5 = false) (hr : id < 1 ∨ (1 ≤ id ∧ 65535 < id)) (w : World) : Calls Try.prog 24 #[.agg #[.int .u8 o0, .int .u8 o1, .int .u8 o2, .int .u8 o3, .int .u8 o4, .int .u8 o5], .agg #[.int .u8 p0, .int .u8 p1, .int .u8 p2, .int .u8 p3, .int .u8 p4, .int .u8 p5], .int .i64 id] w fun e w' => e = .returned (.tuple #[.agg zeroLk.cells, .int .i64 2]) ∧ Below w.heap.size w w' := by
  have E := eql_addr o0 o1 o2 o3 o4 o5 p0 p1 p2 p3 p4 p5 ho0 ho1 ho2 ho3 ho4 ho5 hp0 hp1 hp2 hp3 hp4 hp5
  rw [hs] at E
  clear hs ho0 ho1 ho2 ho3 ho4 ho5 hp0 hp1 hp2 hp3 hp4 hp5
  obtain ⟨_, _, rq⟩ := fr_rows3 w (.cells #[.int .u8 o0, .int .u8 o1, .int .u8 o2, .int .u8 o3, .int .u8 o4, .int .u8 o5] 25) (.cells #[.int .u8 p0, .int .u8 p1, .int .u8 p2, .int .u8 p3, .int .u8 p4, .int .u8 p5] 25) (.cells #[.int .u8 0, .int .u8 0, .int .u8 0, .int .u8 0, .int .u8 0, .int .u8 0, .int .u8 0, .int .u8 0, .int .u8 0, .int .u8 0, .int .u8 0, .int .u8 0, .int .u8 0, .int .i64 0, .int .i64 0, .int .i64 0, .int .i64 0] 27)
  have RQ := Lib.hid rq
  have HIZ := Lib.hid link_infoZ
  clear rq
  have HI2 := HIZ
  have HO := Lib.hid zl_one
  rcases hr with hr | ⟨hr, hr2⟩
  all_goals
    go_enter Try.func24, Try.ntmps24
    go_wp2_with ((with_reducible refine wpList_store_rowTo rfl 27 (.tmp 6) (.tmp 19) rfl rfl (w.heap.size + 1 + 1) #[.int .u8 0, .int .u8 0, .int .u8 0, .int .u8 0, .int .u8 0, .int .u8 0, .int .u8 0, .int .u8 0, .int .u8 0, .int .u8 0, .int .u8 0, .int .u8 0, .int .u8 0, .int .i64 0, .int .i64 0, .int .i64 0, .int .i64 0] ?_ ?_ 27 #[.int .u8 0, .int .u8 0, .int .u8 0, .int .u8 0, .int .u8 0, .int .u8 0, .int .u8 0, .int .u8 0, .int .u8 0, .int .u8 0, .int .u8 0, .int .u8 0, .int .u8 0, .int .i64 0, .int .i64 0, .int .i64 0, .int .i64 0] RQ.out HI2.out rfl HO.out ?_); (as_aux_lemma => kernel_rfl); (as_aux_lemma => kernel_rfl))
    refine bodyPost_ret (results_row2 rfl _ _ (w.heap.size + 1 + 1) 27 #[.int .u8 0, .int .u8 0, .int .u8 0, .int .u8 0, .int .u8 0, .int .u8 0, .int .u8 0, .int .u8 0, .int .u8 0, .int .u8 0, .int .u8 0, .int .u8 0, .int .u8 0, .int .i64 0, .int .i64 0, .int .i64 0, .int .i64 0] (0, 0) _ rfl (setRow_heap _ _ _ _ _ _ RQ.out) Try.underlying27 rfl HI2.out) rfl ?_
    exact ⟨rfl, below_setRow' ((((Below.refl w.heap.size w).alloc (Nat.le_refl _) _).alloc (by simp only [World.size_alloc]; omega) _).alloc (by simp only [World.size_alloc]; omega) _) (by omega) _⟩
set_option maxHeartbeats 2000000 in
theorem new_ok (o0 o1 o2 o3 o4 o5 p0 p1 p2 p3 p4 p5 id : Int) (ho0 : 0 ≤ o0 ∧ o0 ≤ 255) (ho1 : 0 ≤ o1 ∧ o1 ≤ 255) (ho2 : 0 ≤ o2 ∧ o2 ≤ 255) (ho3 : 0 ≤ o3 ∧ o3 ≤ 255) (ho4 : 0 ≤ o4 ∧ o4 ≤ 255) (ho5 : 0 ≤ o5 ∧ o5 ≤ 255) (hp0 : 0 ≤ p0 ∧ p0 ≤ 255) (hp1 : 0 ≤ p1 ∧ p1 ≤ 255) (hp2 : 0 ≤ p2 ∧ p2 ≤ 255) (hp3 : 0 ≤ p3 ∧ p3 ≤ 255) (hp4 : 0 ≤ p4 ∧ p4 ≤ 255) (hp5 : 0 ≤ p5 ∧ p5 ≤ 255) (hs : addrB o0 o1 o2 o3 o4 o5 p0 p1 p2 p3 p4 p5 = false) (h1 : 1 ≤ id) (h2 : id ≤ 65535) (w : World) : Calls Try.prog 24 #[.agg #[.int .u8 o0, .int .u8 o1, .int .u8 o2, .int .u8 o3, .int .u8 o4, .int .u8 o5], .agg #[.int .u8 p0, .int .u8 p1, .int .u8 p2, .int .u8 p3, .int .u8 p4, .int .u8 p5], .int .i64 id] w fun e w' => e = .returned (.tuple #[.agg (newK o0 o1 o2 o3 o4 o5 p0 p1 p2 p3 p4 p5 id).cells, .int .i64 0]) ∧ Below w.heap.size w w' := by
  have E := eql_addr o0 o1 o2 o3 o4 o5 p0 p1 p2 p3 p4 p5 ho0 ho1 ho2 ho3 ho4 ho5 hp0 hp1 hp2 hp3 hp4 hp5
  rw [hs] at E
  clear hs ho0 ho1 ho2 ho3 ho4 ho5 hp0 hp1 hp2 hp3 hp4 hp5
  obtain ⟨_, _, rq⟩ := fr_rows3 w (.cells #[.int .u8 o0, .int .u8 o1, .int .u8 o2, .int .u8 o3, .int .u8 o4, .int .u8 o5] 25) (.cells #[.int .u8 p0, .int .u8 p1, .int .u8 p2, .int .u8 p3, .int .u8 p4, .int .u8 p5] 25) (.cells #[.int .u8 0, .int .u8 0, .int .u8 0, .int .u8 0, .int .u8 0, .int .u8 0, .int .u8 0, .int .u8 0, .int .u8 0, .int .u8 0, .int .u8 0, .int .u8 0, .int .u8 0, .int .i64 0, .int .i64 0, .int .i64 0, .int .i64 0] 27)
  have RQ := Lib.hid rq
  have HIZ := Lib.hid link_infoZ
  clear rq
  have HI2 := Lib.hid (link_info2 (newK o0 o1 o2 o3 o4 o5 p0 p1 p2 p3 p4 p5 id))
  have HO := Lib.hid (one_cells (newK o0 o1 o2 o3 o4 o5 p0 p1 p2 p3 p4 p5 id))
  go_enter Try.func24, Try.ntmps24
  go_wp2_with (first
    | (with_reducible refine wpList_runTo rfl (some 23) rfl (.agg (newK o0 o1 o2 o3 o4 o5 p0 p1 p2 p3 p4 p5 id).cells) (((w.alloc (.cells #[.int .u8 o0, .int .u8 o1, .int .u8 o2, .int .u8 o3, .int .u8 o4, .int .u8 o5] 25)).alloc (.cells #[.int .u8 p0, .int .u8 p1, .int .u8 p2, .int .u8 p3, .int .u8 p4, .int .u8 p5] 25)).alloc (.cells #[.int .u8 0, .int .u8 0, .int .u8 0, .int .u8 0, .int .u8 0, .int .u8 0, .int .u8 0, .int .u8 0, .int .u8 0, .int .u8 0, .int .u8 0, .int .u8 0, .int .u8 0, .int .i64 0, .int .i64 0, .int .i64 0, .int .i64 0] 27)) (by as_aux_lemma => kernel_rfl) ?_; simp only [Act.put, List.setIfInBounds_toArray, List.set_cons_succ, List.set_cons_zero])
    | ((with_reducible refine wpList_store_rowTo rfl 27 (.tmp 6) (.tmp 23) rfl rfl (w.heap.size + 1 + 1) (newK o0 o1 o2 o3 o4 o5 p0 p1 p2 p3 p4 p5 id).cells ?_ ?_ 27 #[.int .u8 0, .int .u8 0, .int .u8 0, .int .u8 0, .int .u8 0, .int .u8 0, .int .u8 0, .int .u8 0, .int .u8 0, .int .u8 0, .int .u8 0, .int .u8 0, .int .u8 0, .int .i64 0, .int .i64 0, .int .i64 0, .int .i64 0] RQ.out HI2.out rfl HO.out ?_); (as_aux_lemma => kernel_rfl); (as_aux_lemma => kernel_rfl)))
  refine bodyPost_ret (results_row2 rfl _ _ (w.heap.size + 1 + 1) 27 (newK o0 o1 o2 o3 o4 o5 p0 p1 p2 p3 p4 p5 id).cells (0, 0) _ rfl (setRow_heap _ _ _ _ _ _ RQ.out) Try.underlying27 rfl HI2.out) rfl ?_
  exact ⟨rfl, below_setRow' ((((Below.refl w.heap.size w).alloc (Nat.le_refl _) _).alloc (by simp only [World.size_alloc]; omega) _).alloc (by simp only [World.size_alloc]; omega) _) (by omega) _⟩
theorem up_any (k : Lk) (w : World) : Calls Try.prog 15 #[.agg k.cells] w fun e w' => e = .returned (.bool (k.st == 4)) ∧ Below w.heap.size w w' := by
  have R0 := Lib.hid (fr_rows1 w (.cells k.cells 27))
  have s12 : (w.alloc (.cells k.cells 27)).cell? ⟨w.heap.size, 12, none⟩ = some (.int .u8 k.st) := (cell_of_row _ _ _ _ _ _ R0.out).trans (lk_st k)
  clear R0
  go_enter Try.func15, Try.ntmps15
  go_wp2
  go_ret
  exact ⟨rfl, by go_grown⟩
theorem one_any (w : World) : Calls Try.prog 25 #[] w fun e w' => e = .returned (.agg #[.int .u8 2, .int .u8 0, .int .u8 0, .int .u8 0, .int .u8 0, .int .u8 3]) ∧ Below w.heap.size w w' := by
  go_enter Try.func25, Try.ntmps25
  go_wp2
  refine bodyPost_ret (v := .agg #[.int .u8 2, .int .u8 0, .int .u8 0, .int .u8 0, .int .u8 0, .int .u8 3]) (by simp [results, Try.results25, go_sem]) rfl ?_
  exact ⟨rfl, by go_grown⟩
theorem two_any (w : World) : Calls Try.prog 26 #[] w fun e w' => e = .returned (.agg #[.int .u8 2, .int .u8 0, .int .u8 0, .int .u8 0, .int .u8 0, .int .u8 4]) ∧ Below w.heap.size w w' := by
  go_enter Try.func26, Try.ntmps26
  go_wp2
  refine bodyPost_ret (v := .agg #[.int .u8 2, .int .u8 0, .int .u8 0, .int .u8 0, .int .u8 0, .int .u8 4]) (by simp [results, Try.results26, go_sem]) rfl ?_
  exact ⟨rfl, by go_grown⟩
theorem msgOf_eq (k a b : Int) (ha0 : 0 ≤ a) (ha1 : a ≤ 65535) (hb0 : 0 ≤ b) (hb1 : b ≤ 65535) : msgOf k a b = [k, a % 256, a / 256, b % 256, b / 256] := by
  simp only [msgOf]
  rw [Int.emod_eq_of_lt (a := a / 256) (by omega) (by omega), Int.emod_eq_of_lt (a := b / 256) (by omega) (by omega)]
/-- A message in new memory. -/
def MsgNew (w : World) (m : List Int) (e : Ending) (w' : World) : Prop := ∃ v, e = .returned v ∧ MsgAt w' w.heap.size v m ∧ Below w.heap.size w w'
theorem msg_new (w : World) (x0 x1 x2 x3 x4 : Int) : MsgNew w [x0, x1, x2, x3, x4] (.returned (.slice (some ⟨w.heap.size, 0, none⟩) 5 5)) (w.alloc (.cells #[.int .u8 x0, .int .u8 x1, .int .u8 x2, .int .u8 x3, .int .u8 x4] 5)) :=
  ⟨_, rfl, ⟨_, rfl, Nat.le_refl _, heap_alloc_new _ _⟩, (Below.refl _ _).alloc (Nat.le_refl _) _⟩
theorem open_any (a : Int) (ha0 : 0 ≤ a) (ha1 : a ≤ 65535) (w : World) : Calls Try.prog 34 #[.int .i64 a] w (MsgNew w (msgOf 1 a 0)) := by
  go_enter Try.func34, Try.ntmps34
  go_wp2
  go_ret
  rw [msgOf_eq 1 a 0 ha0 ha1 (by decide) (by decide)]
  exact msg_new w _ _ _ _ _
theorem confirm_any (a b : Int) (ha0 : 0 ≤ a) (ha1 : a ≤ 65535) (hb0 : 0 ≤ b) (hb1 : b ≤ 65535) (w : World) : Calls Try.prog 33 #[.int .i64 a, .int .i64 b] w (MsgNew w (msgOf 2 a b)) := by
  go_enter Try.func33, Try.ntmps33
  go_wp2
  go_ret
  rw [msgOf_eq 2 a b ha0 ha1 hb0 hb1]
  exact msg_new w _ _ _ _ _
theorem shut_any (a b : Int) (ha0 : 0 ≤ a) (ha1 : a ≤ 65535) (hb0 : 0 ≤ b) (hb1 : b ≤ 65535) (w : World) : Calls Try.prog 23 #[.int .i64 a, .int .i64 b] w (MsgNew w (msgOf 3 a b)) := by
  go_enter Try.func23, Try.ntmps23
  go_wp2
  go_ret
  rw [msgOf_eq 3 a b ha0 ha1 hb0 hb1]
  exact msg_new w _ _ _ _ _
end Go.Proofs.Ytmighkgjbohieaa
