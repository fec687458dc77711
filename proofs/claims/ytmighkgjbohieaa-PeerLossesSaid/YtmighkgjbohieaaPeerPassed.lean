/-
  The contract of the law's passed.
-/
import Derived.Test.YtmighkgjbohieaaPeerApp
import Derived.Deep.LoopGhost
import Derived.Deep.DeepCutAuto
set_option linter.unusedVariables false
set_option linter.unusedSimpArgs false
namespace Go.Proofs.Ytmighkgjbohieaa
open Go.ChangeShapes Go.WideShapes Go.ChangeAt Go.RowKit Go.Great

/-- What 'passed' knows at each round's head. -/
def PassAt (w0 w : World) (n : Nat) (now : Int) (r : Lk × Lk × Bool) : Prop :=
  ∃ x y o0 o1 v0 v1, Below w0.heap.size w0 w ∧ w.heap[w0.heap.size]? = some (.cells (pairCells x y) 28) ∧ w.heap[w0.heap.size + 1]? = some (.cells #[v0, v1] 40) ∧ w.heap[w0.heap.size + 1 + 1]? = some (.cells zp 28) ∧
    ListOk (fun b => b < w0.heap.size ∨ w0.heap.size + 3 ≤ b) w v0 o0 ∧ ListOk (fun b => b < w0.heap.size ∨ w0.heap.size + 3 ≤ b) w v1 o1 ∧ x.By ∧ y.By ∧ (∀ m ∈ o0, MsgOk m) ∧ (∀ m ∈ o1, MsgOk m) ∧ o0.length + o1.length + 2 * n ≤ 1000 ∧ passF n x y o0 o1 now = r
def RetP (w : World) (r : Lk × Lk × Bool) (e : Ending) (w' : World) : Prop := e = .returned (.tuple #[.agg (pairCells r.1 r.2.1), .bool r.2.2]) ∧ Below w.heap.size w w'
set_option maxHeartbeats 4000000 in
theorem passed_any (x y : Lk) (v0 v1 : Value) (o0 o1 : List (List Int)) (now : Int) (hx : x.By) (hy : y.By) (h0 : ∀ m ∈ o0, MsgOk m) (h1 : ∀ m ∈ o1, MsgOk m) (hlen : o0.length + o1.length ≤ 800) (w : World) (l0 : ListIn w v0 o0) (l1 : ListIn w v1 o1) : Calls Try.prog 18 #[.agg (pairCells x y), .agg #[v0, v1], .int .i64 now] w (RetP w (passF 100 x y o0 o1 now)) := by
  obtain ⟨r0, r1, r2⟩ := fr_rows3 w (.cells (pairCells x y) 28) (.cells #[v0, v1] 40) (.cells zp 28)
  have R0 := Lib.hid r0
  have R1 := Lib.hid r1
  have R2 := Lib.hid r2
  clear r0 r1 r2
  obtain ⟨res, hres⟩ : ∃ res, passF 100 x y o0 o1 now = res := ⟨_, rfl⟩
  rw [hres]
  go_enter Try.func18, Try.ntmps18
  go_wp2_with fail
  go_loopg [8] 100 (fun g i wr => ∃ k : Nat, k ≤ 100 ∧ g = 100 - k ∧ i = .int .i64 k ∧ PassAt w wr (100 - k) now res)
  case atStart =>
    refine ⟨0, by omega, rfl, rfl, x, y, o0, o1, v0, v1, (((Below.refl w.heap.size w).alloc (Nat.le_refl _) _).alloc (by simp only [World.size_alloc]; omega) _).alloc (by simp only [World.size_alloc]; omega) _, R0.out, R1.out, R2.out, ?_, ?_, hx, hy, h0, h1, by omega, hres⟩
    · exact (l0.ok.mono fun b q => .inl q).keep (kept_below ((((Below.refl w.heap.size w).alloc (Nat.le_refl _) _).alloc (by simp only [World.size_alloc]; omega) _).alloc (by simp only [World.size_alloc]; omega) _))
    · exact (l1.ok.mono fun b q => .inl q).keep (kept_below ((((Below.refl w.heap.size w).alloc (Nat.le_refl _) _).alloc (by simp only [World.size_alloc]; omega) _).alloc (by simp only [World.size_alloc]; omega) _))
  case round =>
    clear R0 R1 R2 hres l0 l1 hx hy h0 h1 hlen
    obtain ⟨k, hk, rfl, rfl, hp⟩ := hrel
    obtain ⟨x, y, o0, o1, v0, v1, hB, r0, r1, r2, l0, l1, hx, hy, h0, h1, hlen, hres⟩ := hp
    have R0 := Lib.hid r0
    have R1 := Lib.hid r1
    have R2 := Lib.hid r2
    have HB := Lib.hid hB
    have HIP := Lib.hid (pair_info x y)
    have t0 : wr.cell? ⟨w.heap.size + 1, 0, none⟩ = some v0 := (cell_of_row _ _ _ _ _ _ r1).trans rfl
    have t1 : wr.cell? ⟨w.heap.size + 1, 1, none⟩ = some v1 := (cell_of_row _ _ _ _ _ _ r1).trans rfl
    have hsz : w.heap.size + 1 + 1 < wr.heap.size := row_lt r2
    clear r0 r1 r2 hB
    by_cases hlt : k < 100
    · obtain ⟨n, hn⟩ : ∃ n, 100 - k = n + 1 := ⟨99 - k, by omega⟩
      rw [hn] at hres
      have hlz : (k : Int) < 100 := by omega
      cases o0 with
      | nil =>
        cases o1 with
        | nil =>
          obtain ⟨ao0, c0, rfl, _, _, _⟩ := l0
          obtain ⟨ao1, c1, rfl, _, _, _⟩ := l1
          simp only [List.length_nil] at t0 t1
          simp only [passF] at hres
          subst hres
          clear hn h0 h1 hx hy
          go_wp2_with (first
            | (with_reducible refine wpList_load_row rfl 28 (.tmp 3) rfl w.heap.size rfl 28 (pairCells x y) (0, 0) _ R0.out Try.underlying28 rfl HIP.out ?_)
            | ((with_reducible refine wpList_store_rowTo rfl 28 (.tmp 6) (.tmp 26) rfl rfl (w.heap.size + 1 + 1) (pairCells x y) ?_ ?_ 28 zp R2.out HIP.out rfl (pair_one _ _) ?_); (as_aux_lemma => kernel_rfl); (as_aux_lemma => kernel_rfl)))
          refine bodyPost_ret (results_row2 rfl _ _ (w.heap.size + 1 + 1) 28 (pairCells x y) (0, 0) _ rfl (setRow_heap _ _ _ _ _ _ R2.out) Try.underlying28 rfl HIP.out) rfl ?_
          exact ⟨rfl, below_setRow' HB.out (by omega) _⟩
        | cons m r =>
          obtain ⟨lb, lo, lc, rfl, hL, hLm, ⟨mv, hmv, hmi⟩, ltail⟩ := l1.tail
          have hx0 := l0
          obtain ⟨ao0, c0, rfl, _, _, _⟩ := hx0
          simp only [List.length_nil] at t0 l0
          have R1 := Lib.hid (show wr.heap[w.heap.size + 1]? = some (.cells #[.slice ao0 0 c0, .slice (some ⟨lb, lo, none⟩) (r.length + 1) lc] 40) from R1.out)
          have hR := fine_handle hx m now
          simp only [passF] at hres
          generalize hg : pHandle x m now = rr at hres hR
          have HX := Lib.hid (fun W (hm : MsgIn W mv m) => hg ▸ handle_any x hx now mv m W hm)
          have HMI := Lib.hid hmi
          clear hg hmi
          obtain ⟨k2, ms2, er⟩ := rr
          obtain ⟨f1, f2, f3⟩ := hR
          simp only [] at f1 f2 f3 hres
          have HI := Lib.hid (link_info2 x)
          have HI2 := Lib.hid (link_info2 k2)
          have hLz : (((r.length + 1 : Nat) : Int) == 0) = false := by simp; omega
          have hLp : (0 : Int) < ((r.length + 1 : Nat) : Int) := by omega
          go_upto_region 9 with fail
          go_cut [10, 11, 12] (fun t10 t11 t12 wx => ∃ T v2, t10 = .pointer (some ⟨T, 0, none⟩) ∧ t11 = v2 ∧ t12 = .int .i64 er ∧ wr.heap.size ≤ T ∧ wx.heap[T]? = some (.cells k2.cells 27) ∧ Below wr.heap.size wr wx ∧ ListOk (fun b => wr.heap.size ≤ b) wx v2 ms2)
          case first =>
            refine wp_region_held_drew (S := fun w' => Below wr.heap.size wr w') (by kernel_rfl) ((Below.refl _ _).drew) (fun hHeld => ?_)
            refine wpAnyH_take (i := 0) (v := .int .i64 1) rfl (by kernel_rfl) (by kernel_rfl) (by kernel_rfl) (fun _ _ _ h => h) (Or.inl ⟨by rfl, by intro w hSw; clear hHeld hSw; go_simp; (try rfl)⟩) (by assumption) ?_
            simp only [Act.put, List.setIfInBounds_toArray, List.set_cons_zero, List.set_cons_succ, List.getElem_toArray, List.getElem_cons_succ, List.getElem_cons_zero]
            refine wpAnyH_take (i := 1) (v := .int .i64 0) rfl (by kernel_rfl) (by kernel_rfl) (by kernel_rfl) (fun _ _ _ h => h) (Or.inl ⟨by rfl, by intro w hSw; clear hHeld hSw; go_simp; (try rfl)⟩) (by assumption) ?_
            simp only [Act.put, List.setIfInBounds_toArray, List.set_cons_zero, List.set_cons_succ, List.getElem_toArray, List.getElem_cons_succ, List.getElem_cons_zero]
            refine wpAnyH_take (i := 2) (v := .pointer (some ⟨w.heap.size, 0, none⟩)) rfl (by kernel_rfl) (by kernel_rfl) (by kernel_rfl) (fun _ _ _ h => h) (Or.inl ⟨by rfl, by intro w hSw; clear hHeld hSw; go_simp; (try rfl)⟩) (by assumption) ?_
            simp only [Act.put, List.setIfInBounds_toArray, List.set_cons_zero, List.set_cons_succ, List.getElem_toArray, List.getElem_cons_succ, List.getElem_cons_zero]
            refine wpAnyH_take (i := 3) (v := .agg x.cells) rfl (by kernel_rfl) (by kernel_rfl) (by kernel_rfl) (fun _ _ _ h => h) (yields_sub (by rfl) 27 _ rfl (w.heap.size) 0 (by rfl) x.cells _ (fun w' h' => range_pair0 (row_below h' R0.out)) Try.underlying27 rfl HI.out) (by assumption) ?_
            simp only [Act.put, List.setIfInBounds_toArray, List.set_cons_zero, List.set_cons_succ, List.getElem_toArray, List.getElem_cons_succ, List.getElem_cons_zero]
            refine wpAnyH_take (i := 4) (v := .int .i64 1) rfl (by kernel_rfl) (by kernel_rfl) (by kernel_rfl) (fun _ _ _ h => h) (Or.inl ⟨by rfl, by intro w hSw; clear hHeld hSw; go_simp; (try rfl)⟩) (by assumption) ?_
            simp only [Act.put, List.setIfInBounds_toArray, List.set_cons_zero, List.set_cons_succ, List.getElem_toArray, List.getElem_cons_succ, List.getElem_cons_zero]
            refine wpAnyH_take (i := 5) (v := .pointer (some ⟨w.heap.size + 1, 1, none⟩)) rfl (by kernel_rfl) (by kernel_rfl) (by kernel_rfl) (fun _ _ _ h => h) (Or.inl ⟨by rfl, by intro w hSw; clear hHeld hSw; go_simp; (try rfl)⟩) (by assumption) ?_
            simp only [Act.put, List.setIfInBounds_toArray, List.set_cons_zero, List.set_cons_succ, List.getElem_toArray, List.getElem_cons_succ, List.getElem_cons_zero]
            refine wpAnyH_take (i := 6) (v := .slice (some ⟨lb, lo, none⟩) (r.length + 1) lc) rfl (by kernel_rfl) (by kernel_rfl) (by kernel_rfl) (fun _ _ _ h => h) (Or.inl ⟨by rfl, by intro w hSw; have tq := below_kept hSw t1; clear hHeld hSw; go_simp⟩) (by assumption) ?_
            simp only [Act.put, List.setIfInBounds_toArray, List.set_cons_zero, List.set_cons_succ, List.getElem_toArray, List.getElem_cons_succ, List.getElem_cons_zero]
            refine wpAnyH_take (i := 7) (v := .pointer (some ⟨lb, lo, none⟩)) rfl (by kernel_rfl) (by kernel_rfl) (by kernel_rfl) (fun _ _ _ h => h) (Or.inl ⟨by rfl, by intro w hSw; clear hHeld hSw; go_simp; (try rfl)⟩) (by assumption) ?_
            simp only [Act.put, List.setIfInBounds_toArray, List.set_cons_zero, List.set_cons_succ, List.getElem_toArray, List.getElem_cons_succ, List.getElem_cons_zero]
            refine wpAnyH_take (i := 8) (v := mv) rfl (by kernel_rfl) (by kernel_rfl) (by kernel_rfl) (fun _ _ _ h => h) (Or.inl ⟨by rfl, by intro w hSw; have tq := below_kept hSw hmv; clear hHeld hSw; go_simp⟩) (by assumption) ?_
            simp only [Act.put, List.setIfInBounds_toArray, List.set_cons_zero, List.set_cons_succ, List.getElem_toArray, List.getElem_cons_succ, List.getElem_cons_zero]
            refine wpAnyH_take (i := 9) (v := .int .i64 now) rfl (by kernel_rfl) (by kernel_rfl) (by kernel_rfl) (fun _ _ _ h => h) (Or.inl ⟨by rfl, by intro w hSw; clear hHeld hSw; go_simp; (try rfl)⟩) (by assumption) ?_
            simp only [Act.put, List.setIfInBounds_toArray, List.set_cons_zero, List.set_cons_succ, List.getElem_toArray, List.getElem_cons_succ, List.getElem_cons_zero]
            refine wpAnyH_ready (rs := [10, 15]) (by kernel_rfl) (by simp) ?_
            refine AllReadyH.cons (i := 10) (rs := [15]) rfl ?_ (AllReadyH.cons (i := 15) (rs := []) rfl ?_ AllReadyH.nil)
            · intro Kq hKq
              simp only [List.getElem_toArray, List.getElem_cons_succ, List.getElem_cons_zero]
              rw [if_pos (by rfl)]
              refine wp_call_fn 20 #[.agg x.cells, mv, .int .i64 now] (_) (by as_aux_lemma => kernel_rfl) (HX.out _ HMI.out) ?_
              rintro e w1 ⟨v2, rfl, hO, hb⟩
              have HB1 := Lib.hid hb
              have HBZ : wr.heap.size ≤ w1.heap.size := hb.size
              refine ⟨.tuple #[.agg k2.cells, v2, .int .i64 er], rfl, ?_⟩
              refine hKq.out _ _ ((Below.refl _ _).drew.trans hb) (fun hHeld2 => ?_)
              clear hKq Kq hHeld
              have hHeld := hHeld2
              clear hHeld2
              simp only [Act.put, List.setIfInBounds_toArray, List.set_cons_zero, List.set_cons_succ]
              refine wpAnyH_take (i := 11) (v := .tuple #[.agg k2.cells, v2, .int .i64 er]) rfl (by kernel_rfl) (by kernel_rfl) (by kernel_rfl) (fun _ _ _ h => h) (Or.inl ⟨by rfl, by intro w hSw; clear hHeld hSw; go_simp; (try rfl)⟩) (by assumption) ?_
              simp only [Act.put, List.setIfInBounds_toArray, List.set_cons_zero, List.set_cons_succ, List.getElem_toArray, List.getElem_cons_succ, List.getElem_cons_zero]
              refine wpAnyH_take (i := 12) (v := .agg k2.cells) rfl (by kernel_rfl) (by kernel_rfl) (by kernel_rfl) (fun _ _ _ h => h) (Or.inl ⟨by rfl, by intro w hSw; clear hHeld hSw; go_simp; (try rfl)⟩) (by assumption) ?_
              simp only [Act.put, List.setIfInBounds_toArray, List.set_cons_zero, List.set_cons_succ, List.getElem_toArray, List.getElem_cons_succ, List.getElem_cons_zero]
              refine wpAnyH_take (i := 13) (v := v2) rfl (by kernel_rfl) (by kernel_rfl) (by kernel_rfl) (fun _ _ _ h => h) (Or.inl ⟨by rfl, by intro w hSw; clear hHeld hSw; go_simp; (try rfl)⟩) (by assumption) ?_
              simp only [Act.put, List.setIfInBounds_toArray, List.set_cons_zero, List.set_cons_succ, List.getElem_toArray, List.getElem_cons_succ, List.getElem_cons_zero]
              refine wpAnyH_take (i := 14) (v := .int .i64 er) rfl (by kernel_rfl) (by kernel_rfl) (by kernel_rfl) (fun _ _ _ h => h) (Or.inl ⟨by rfl, by intro w hSw; clear hHeld hSw; go_simp; (try rfl)⟩) (by assumption) ?_
              simp only [Act.put, List.setIfInBounds_toArray, List.set_cons_zero, List.set_cons_succ, List.getElem_toArray, List.getElem_cons_succ, List.getElem_cons_zero]
              refine wpAnyH_ready (rs := [15]) (by kernel_rfl) (by simp) ?_
              refine AllReadyH.cons (i := 15) (rs := []) rfl ?_ AllReadyH.nil
              intro Kq hKq
              simp only [List.getElem_toArray, List.getElem_cons_succ, List.getElem_cons_zero]
              rw [if_pos (by rfl)]
              refine wp_op_value (.pointer (some ⟨w1.heap.size, 0, none⟩)) (w1.alloc (.cells #[.int .u8 0, .int .u8 0, .int .u8 0, .int .u8 0, .int .u8 0, .int .u8 0, .int .u8 0, .int .u8 0, .int .u8 0, .int .u8 0, .int .u8 0, .int .u8 0, .int .u8 0, .int .i64 0, .int .i64 0, .int .i64 0, .int .i64 0] 27)) (by as_aux_lemma => kernel_rfl) ?_
              refine hKq.out _ _ (hHeld.alloc hHeld.size _) (fun hHeld2 => ?_)
              clear hKq Kq hHeld
              have hHeld := hHeld2
              clear hHeld2
              simp only [Act.put, List.setIfInBounds_toArray, List.set_cons_zero, List.set_cons_succ]
              refine wpAnyH_ready (rs := [16]) (by kernel_rfl) (by simp) ?_
              refine AllReadyH.cons (i := 16) (rs := []) rfl ?_ AllReadyH.nil
              intro Kq hKq
              simp only [List.getElem_toArray, List.getElem_cons_succ, List.getElem_cons_zero]
              rw [if_pos (by rfl)]
              have HBA := Lib.hid (show Below wr.heap.size wr (w1.alloc (.cells k2.cells 27)) from ((Below.refl _ _).drew.trans HB1.out).alloc HBZ _)
              refine wp_store_row 27 (.tmp 10) (.tmp 39) (by rfl) (w1.heap.size) k2.cells (by as_aux_lemma => kernel_rfl) (by as_aux_lemma => kernel_rfl) 27 #[.int .u8 0, .int .u8 0, .int .u8 0, .int .u8 0, .int .u8 0, .int .u8 0, .int .u8 0, .int .u8 0, .int .u8 0, .int .u8 0, .int .u8 0, .int .u8 0, .int .u8 0, .int .i64 0, .int .i64 0, .int .i64 0, .int .i64 0] (heap_alloc_new _ _) HI2.out (by as_aux_lemma => kernel_rfl) (one_cells _) ?_
              rw [setRow_alloc]
              refine hKq.out _ _ (HBA.out) (fun hHeld2 => ?_)
              clear hKq Kq hHeld
              have hHeld := hHeld2
              clear hHeld2
              simp only [Act.put, List.setIfInBounds_toArray, List.set_cons_zero, List.set_cons_succ]
              refine wpAnyH_take (i := 17) (v := v2) rfl (by kernel_rfl) (by kernel_rfl) (by kernel_rfl) (fun _ _ _ h => h) (Or.inl ⟨by rfl, by intro w hSw; clear hHeld hSw; go_simp; (try rfl)⟩) (by assumption) ?_
              simp only [Act.put, List.setIfInBounds_toArray, List.set_cons_zero, List.set_cons_succ, List.getElem_toArray, List.getElem_cons_succ, List.getElem_cons_zero]
              refine wpAnyH_take (i := 18) (v := .int .i64 er) rfl (by kernel_rfl) (by kernel_rfl) (by kernel_rfl) (fun _ _ _ h => h) (Or.inl ⟨by rfl, by intro w hSw; clear hHeld hSw; go_simp; (try rfl)⟩) (by assumption) ?_
              simp only [Act.put, List.setIfInBounds_toArray, List.set_cons_zero, List.set_cons_succ, List.getElem_toArray, List.getElem_cons_succ, List.getElem_cons_zero]
              clear hHeld
              refine wpAnyH_done (by kernel_rfl) ?_ _
              have HT : wr.heap.size ≤ w1.heap.size ∧ (w1.alloc (.cells k2.cells 27)).heap[w1.heap.size]? = some (.cells k2.cells 27) ∧ Below wr.heap.size wr (w1.alloc (.cells k2.cells 27)) ∧ ListOk (fun b => wr.heap.size ≤ b) (w1.alloc (.cells k2.cells 27)) v2 ms2 := ⟨HBZ, heap_alloc_new _ _, HBA.out, ((hO.listOk f2 (Nat.le_trans f3 (by unfold maxLen; decide))).mono (fun b q => Nat.le_trans (by simp only [drew_heap]; omega) q)).keep (kept_below ((Below.refl _ _).alloc (Nat.le_refl _) _))⟩
              go_wp2_with fail
              go_meet
              case rel => exact ⟨_, _, rfl, rfl, rfl, HT⟩
            · intro Kq hKq
              simp only [List.getElem_toArray, List.getElem_cons_succ, List.getElem_cons_zero]
              rw [if_pos (by rfl)]
              refine wp_op_value (.pointer (some ⟨wr.heap.size, 0, none⟩)) (wr.drew.alloc (.cells #[.int .u8 0, .int .u8 0, .int .u8 0, .int .u8 0, .int .u8 0, .int .u8 0, .int .u8 0, .int .u8 0, .int .u8 0, .int .u8 0, .int .u8 0, .int .u8 0, .int .u8 0, .int .i64 0, .int .i64 0, .int .i64 0, .int .i64 0] 27)) (by as_aux_lemma => kernel_rfl) ?_
              refine hKq.out _ _ (((Below.refl _ _).drew.alloc (Nat.le_refl _) _)) (fun hHeld2 => ?_)
              clear hKq Kq hHeld
              have hHeld := hHeld2
              clear hHeld2
              simp only [Act.put, List.setIfInBounds_toArray, List.set_cons_zero, List.set_cons_succ]
              refine wpAnyH_ready (rs := [10]) (by kernel_rfl) (by simp) ?_
              refine AllReadyH.cons (i := 10) (rs := []) rfl ?_ AllReadyH.nil
              intro Kq hKq
              simp only [List.getElem_toArray, List.getElem_cons_succ, List.getElem_cons_zero]
              rw [if_pos (by rfl)]
              refine wp_call_fn 20 #[.agg x.cells, mv, .int .i64 now] (_) (by as_aux_lemma => kernel_rfl) (HX.out _ (HMI.out.below ((Below.refl _ _).drew.alloc (Nat.le_refl _) _))) ?_
              rintro e w1 ⟨v2, rfl, hO, hb⟩
              refine ⟨.tuple #[.agg k2.cells, v2, .int .i64 er], rfl, ?_⟩
              refine hKq.out _ _ ((hHeld.trans (hb.mono (by simp only [World.size_alloc, drew_heap]; omega)))) (fun hHeld2 => ?_)
              clear hKq Kq hHeld
              have hHeld := hHeld2
              clear hHeld2
              simp only [Act.put, List.setIfInBounds_toArray, List.set_cons_zero, List.set_cons_succ]
              refine wpAnyH_take (i := 11) (v := .tuple #[.agg k2.cells, v2, .int .i64 er]) rfl (by kernel_rfl) (by kernel_rfl) (by kernel_rfl) (fun _ _ _ h => h) (Or.inl ⟨by rfl, by intro w hSw; clear hHeld hSw; go_simp; (try rfl)⟩) (by assumption) ?_
              simp only [Act.put, List.setIfInBounds_toArray, List.set_cons_zero, List.set_cons_succ, List.getElem_toArray, List.getElem_cons_succ, List.getElem_cons_zero]
              refine wpAnyH_take (i := 12) (v := .agg k2.cells) rfl (by kernel_rfl) (by kernel_rfl) (by kernel_rfl) (fun _ _ _ h => h) (Or.inl ⟨by rfl, by intro w hSw; clear hHeld hSw; go_simp; (try rfl)⟩) (by assumption) ?_
              simp only [Act.put, List.setIfInBounds_toArray, List.set_cons_zero, List.set_cons_succ, List.getElem_toArray, List.getElem_cons_succ, List.getElem_cons_zero]
              refine wpAnyH_take (i := 13) (v := v2) rfl (by kernel_rfl) (by kernel_rfl) (by kernel_rfl) (fun _ _ _ h => h) (Or.inl ⟨by rfl, by intro w hSw; clear hHeld hSw; go_simp; (try rfl)⟩) (by assumption) ?_
              simp only [Act.put, List.setIfInBounds_toArray, List.set_cons_zero, List.set_cons_succ, List.getElem_toArray, List.getElem_cons_succ, List.getElem_cons_zero]
              refine wpAnyH_take (i := 14) (v := .int .i64 er) rfl (by kernel_rfl) (by kernel_rfl) (by kernel_rfl) (fun _ _ _ h => h) (Or.inl ⟨by rfl, by intro w hSw; clear hHeld hSw; go_simp; (try rfl)⟩) (by assumption) ?_
              simp only [Act.put, List.setIfInBounds_toArray, List.set_cons_zero, List.set_cons_succ, List.getElem_toArray, List.getElem_cons_succ, List.getElem_cons_zero]
              refine wpAnyH_ready (rs := [16]) (by kernel_rfl) (by simp) ?_
              refine AllReadyH.cons (i := 16) (rs := []) rfl ?_ AllReadyH.nil
              intro Kq hKq
              simp only [List.getElem_toArray, List.getElem_cons_succ, List.getElem_cons_zero]
              rw [if_pos (by rfl)]
              have HRT := Lib.hid (show w1.heap[wr.heap.size]? = some (.cells #[.int .u8 0, .int .u8 0, .int .u8 0, .int .u8 0, .int .u8 0, .int .u8 0, .int .u8 0, .int .u8 0, .int .u8 0, .int .u8 0, .int .u8 0, .int .u8 0, .int .u8 0, .int .i64 0, .int .i64 0, .int .i64 0, .int .i64 0] 27) from row_below hb (heap_alloc_new _ _))
              have HBA := Lib.hid (below_setRow' hHeld (Nat.le_refl _) k2.cells)
              refine wp_store_row 27 (.tmp 10) (.tmp 39) (by rfl) (wr.heap.size) k2.cells (by as_aux_lemma => kernel_rfl) (by as_aux_lemma => kernel_rfl) 27 #[.int .u8 0, .int .u8 0, .int .u8 0, .int .u8 0, .int .u8 0, .int .u8 0, .int .u8 0, .int .u8 0, .int .u8 0, .int .u8 0, .int .u8 0, .int .u8 0, .int .u8 0, .int .i64 0, .int .i64 0, .int .i64 0, .int .i64 0] HRT.out HI2.out (by as_aux_lemma => kernel_rfl) (one_cells _) ?_
              refine hKq.out _ _ (HBA.out) (fun hHeld2 => ?_)
              clear hKq Kq hHeld
              have hHeld := hHeld2
              clear hHeld2
              simp only [Act.put, List.setIfInBounds_toArray, List.set_cons_zero, List.set_cons_succ]
              refine wpAnyH_take (i := 17) (v := v2) rfl (by kernel_rfl) (by kernel_rfl) (by kernel_rfl) (fun _ _ _ h => h) (Or.inl ⟨by rfl, by intro w hSw; clear hHeld hSw; go_simp; (try rfl)⟩) (by assumption) ?_
              simp only [Act.put, List.setIfInBounds_toArray, List.set_cons_zero, List.set_cons_succ, List.getElem_toArray, List.getElem_cons_succ, List.getElem_cons_zero]
              refine wpAnyH_take (i := 18) (v := .int .i64 er) rfl (by kernel_rfl) (by kernel_rfl) (by kernel_rfl) (fun _ _ _ h => h) (Or.inl ⟨by rfl, by intro w hSw; clear hHeld hSw; go_simp; (try rfl)⟩) (by assumption) ?_
              simp only [Act.put, List.setIfInBounds_toArray, List.set_cons_zero, List.set_cons_succ, List.getElem_toArray, List.getElem_cons_succ, List.getElem_cons_zero]
              clear hHeld
              refine wpAnyH_done (by kernel_rfl) ?_ _
              have HT : wr.heap.size ≤ wr.heap.size ∧ (w1.setRow wr.heap.size k2.cells).heap[wr.heap.size]? = some (.cells k2.cells 27) ∧ Below wr.heap.size wr (w1.setRow wr.heap.size k2.cells) ∧ ListOk (fun b => wr.heap.size ≤ b) (w1.setRow wr.heap.size k2.cells) v2 ms2 := ⟨Nat.le_refl _, setRow_heap _ _ _ _ _ _ HRT.out, HBA.out, ((hO.setRow wr.heap.size (by simp only [World.size_alloc, drew_heap]; omega) k2.cells).listOk f2 (Nat.le_trans f3 (by unfold maxLen; decide))).mono (fun b q => Nat.le_trans (by simp only [World.size_alloc, drew_heap]; omega) q)⟩
              go_wp2_with fail
              go_meet
              case rel => exact ⟨_, _, rfl, rfl, rfl, HT⟩
          case rest =>
            obtain ⟨T, v2, rfl, rfl, rfl, hT, rT, hbx, lx⟩ := hcut
            have C0 := Lib.hid (row_below hbx R0.out)
            have C1 := Lib.hid (row_below hbx R1.out)
            have C2 := Lib.hid (row_below hbx R2.out)
            have CT := Lib.hid rT
            have hsz2 := hbx.size
            have cf : ∀ o, wc.frozen? ⟨w.heap.size + 1, o, none⟩ = false := fun o => frozen_of_row _ _ _ _ _ C1.out
            have q0 : wc.cell? ⟨w.heap.size + 1, 0, none⟩ = some (.slice ao0 0 c0) := (cell_of_row _ _ _ _ _ _ C1.out).trans rfl
            have q1 : wc.cell? ⟨w.heap.size + 1, 1, none⟩ = some (.slice (some ⟨lb, lo, none⟩) (r.length + 1) lc) := (cell_of_row _ _ _ _ _ _ C1.out).trans rfl
            have LT2 := Lib.hid (ltail.keep (kept_below hbx))
            have LO2 := Lib.hid (l0.keep (kept_below hbx))
            have LM2 := Lib.hid (lx.mono (ok' := fun b => b < w.heap.size ∨ w.heap.size + 3 ≤ b) fun b q => .inr (by omega))
            have HTH := Lib.hid (show wc.there w.heap.size 0 k2.cells.size from there_of_row C0.out 0 17 (by rw [pair_size]; decide))
            have HBC := Lib.hid (HB.out.trans (hbx.mono (by omega)))
            clear R0 R1 R2 rT t0 t1 hmv ltail l0 l1 HB hbx lx HMI HX
            by_cases he : er = 0
            · subst he
              rw [if_pos rfl] at hres
              go_upto_region 13 with (first
                | (with_reducible refine wpList_load_row rfl 27 (.tmp 10) rfl T rfl 27 k2.cells (0, 0) _ CT.out Try.underlying27 rfl HI2.out ?_)
                | ((with_reducible refine wpList_store_midTo rfl rfl 27 (.tmp 48) (.tmp 47) rfl w.heap.size 0 k2.cells ?_ ?_ HTH.out HI2.out (one_cells _) ?_); (as_aux_lemma => kernel_rfl); (as_aux_lemma => kernel_rfl)))
              have D0 := Lib.hid (show (wc.setCells w.heap.size 0 k2.cells.toList).heap[w.heap.size]? = some (.cells (pairCells k2 y) 28) from (heap_setCells_same _ _ _ _ _ _ C0.out).trans (by rw [put_pair0]))
              have D1 := Lib.hid (show (wc.setCells w.heap.size 0 k2.cells.toList).heap[w.heap.size + 1]? = _ from (heap_setCells_far _ _ _ _ _ (by omega)).trans C1.out)
              have D2 := Lib.hid (show (wc.setCells w.heap.size 0 k2.cells.toList).heap[w.heap.size + 1 + 1]? = _ from (heap_setCells_far _ _ _ _ _ (by omega)).trans C2.out)
              have HK2 := Lib.hid (show Kept (fun b => b < w.heap.size ∨ w.heap.size + 3 ≤ b) wc (wc.setCells w.heap.size 0 k2.cells.toList) from kept_setCells (by omega))
              have MT2 := Lib.hid (LT2.out.keep HK2.out)
              have MO2 := Lib.hid (LO2.out.keep HK2.out)
              have MM2 := Lib.hid (LM2.out.keep HK2.out)
              have HBD := Lib.hid (below_setCells' (Nat.le_refl w.heap.size) k2.cells.toList 0 _ _ HBC.out)
              have hsz3 : wr.heap.size ≤ (wc.setCells w.heap.size 0 k2.cells.toList).heap.size := by rw [size_setCells']; exact hsz2
              clear C0 C1 C2 CT HTH HK2 LT2 LO2 LM2 HBC q0 q1 cf hsz2
              generalize wc.setCells w.heap.size 0 k2.cells.toList = W2 at *
              have cf : ∀ o, W2.frozen? ⟨w.heap.size + 1, o, none⟩ = false := fun o => frozen_of_row _ _ _ _ _ D1.out
              have q0 : W2.cell? ⟨w.heap.size + 1, 0, none⟩ = some (.slice ao0 0 c0) := (cell_of_row _ _ _ _ _ _ D1.out).trans rfl
              have q1 : W2.cell? ⟨w.heap.size + 1, 1, none⟩ = some (.slice (some ⟨lb, lo, none⟩) (r.length + 1) lc) := (cell_of_row _ _ _ _ _ _ D1.out).trans rfl
              go_upto_region 14 with fail
              have E0 := Lib.hid (show (W2.setCell ⟨w.heap.size + 1, 1, none⟩ (.slice (if lc = 1 then some ⟨lb, lo, none⟩ else some ⟨lb, lo + 1, none⟩) r.length (lc - 1))).heap[w.heap.size]? = _ from row_set (by simp only []; omega) D0.out)
              have E1 := Lib.hid (show (W2.setCell ⟨w.heap.size + 1, 1, none⟩ (.slice (if lc = 1 then some ⟨lb, lo, none⟩ else some ⟨lb, lo + 1, none⟩) r.length (lc - 1))).heap[w.heap.size + 1]? = some (.cells #[.slice ao0 0 c0, (.slice (if lc = 1 then some ⟨lb, lo, none⟩ else some ⟨lb, lo + 1, none⟩) r.length (lc - 1))] 40) from heap_setCell_same _ _ 1 _ _ _ D1.out)
              have E2 := Lib.hid (show (W2.setCell ⟨w.heap.size + 1, 1, none⟩ (.slice (if lc = 1 then some ⟨lb, lo, none⟩ else some ⟨lb, lo + 1, none⟩) r.length (lc - 1))).heap[w.heap.size + 1 + 1]? = _ from row_set (by simp only []; omega) D2.out)
              have HK3 := Lib.hid (show Kept (fun b => b < w.heap.size ∨ w.heap.size + 3 ≤ b) W2 (W2.setCell ⟨w.heap.size + 1, 1, none⟩ (.slice (if lc = 1 then some ⟨lb, lo, none⟩ else some ⟨lb, lo + 1, none⟩) r.length (lc - 1))) from kept_setCell (by simp only []; omega))
              have NT := Lib.hid (MT2.out.keep HK3.out)
              have NO := Lib.hid (MO2.out.keep HK3.out)
              have NM := Lib.hid (MM2.out.keep HK3.out)
              have HBE := Lib.hid (HBD.out.setCell (p := ⟨w.heap.size + 1, 1, none⟩) (by simp only []; omega) (.slice (if lc = 1 then some ⟨lb, lo, none⟩ else some ⟨lb, lo + 1, none⟩) r.length (lc - 1)))
              have hsz4 : wr.heap.size ≤ (W2.setCell ⟨w.heap.size + 1, 1, none⟩ (.slice (if lc = 1 then some ⟨lb, lo, none⟩ else some ⟨lb, lo + 1, none⟩) r.length (lc - 1))).heap.size := by rw [World.size_setCell]; exact hsz3
              clear D0 D1 D2 HK3 MT2 MO2 MM2 HBD q0 q1 cf hsz3
              generalize W2.setCell ⟨w.heap.size + 1, 1, none⟩ (.slice (if lc = 1 then some ⟨lb, lo, none⟩ else some ⟨lb, lo + 1, none⟩) r.length (lc - 1)) = W3 at *
              generalize Value.slice (if lc = 1 then some ⟨lb, lo, none⟩ else some ⟨lb, lo + 1, none⟩) r.length (lc - 1) = sv at *
              obtain ⟨news1, rd1, el1⟩ := NO.out.reads
              obtain ⟨news2, rd2, el2⟩ := NM.out.reads
              have RD1 := Lib.hid (rd1 _ (kept_below ((Below.refl W3.heap.size W3).alloc (Nat.le_refl _) (.cells #[] 45))))
              have RD2 := Lib.hid rd2
              have hlen1 : news1.length = ([] : List (List Int)).length := by obtain ⟨_, _, _, q, _⟩ := RD1.out; exact q
              have EL1 := Lib.hid el1
              have EL2 := Lib.hid el2
              clear rd1 rd2 el1 el2
              have cf : ∀ o, W3.frozen? ⟨w.heap.size + 1, o, none⟩ = false := fun o => frozen_of_row _ _ _ _ _ E1.out
              have q0 : W3.cell? ⟨w.heap.size + 1, 0, none⟩ = some (.slice ao0 0 c0) := (cell_of_row _ _ _ _ _ _ E1.out).trans rfl
              have q1 : W3.cell? ⟨w.heap.size + 1, 1, none⟩ = some sv := (cell_of_row _ _ _ _ _ _ E1.out).trans rfl
              have hol : ([] : List (List Int)).length ≤ 1000 := by decide
              have hsz5 : w.heap.size + 1 < W3.heap.size := row_lt E1.out
              go_upto_region 3 with (first
                | (refine wpList_append_list rfl (some 62) rfl (.tmp 57) (.tmp 61) rfl W3.heap.size (.slice (some ⟨W3.heap.size, 0, none⟩) 0 0) 0 [] rfl (World.ownsRow_made W3 #[] 0 (Nat.le_refl _) (by unfold maxLen; decide) rfl) (.slice ao0 0 c0) (([] : List (List Int)).length) news1 rfl RD1.out (by omega) (by simp only [World.size_alloc]; omega) ?_; intro v5 W5 ho5 hg5 ha5; have HO5 := Lib.hid ho5; have HB5 := Lib.hid (((Below.refl W3.heap.size W3).alloc (Nat.le_refl _) _).trans (grownBy_below hg5 (by simp only [World.size_alloc]; omega) (fun k e => by cases e; exact Nat.le_refl _))); have HV5 := Lib.hid (show ∀ k, v5.ownBlock = some k → W3.heap.size ≤ k from fun k e => (ho5.lt k e).1); clear ho5 hg5 ha5)
                | (refine wpList_append_list rfl (some 64) rfl (.tmp 62) (.tmp 63) rfl W3.heap.size v5 (0 + ([] : List (List Int)).length) ([] ++ news1) rfl HO5.out u11 ms2.length news2 rfl (RD2.out _ (kept_below HB5.out)) (by omega) HB5.out.size ?_; intro v6 W6 ho6 hg6 ha6; obtain ⟨ao6, n6, c6, rfl⟩ := row_slice ho6; have HO6 := Lib.hid ho6; have HB6 := Lib.hid (HB5.out.trans (grownBy_below hg6 HB5.out.size HV5.out)); clear ho6 hg6 ha6; have EE1 := Lib.hid (row_below HB6.out E1.out); have cf6 : ∀ o, W6.frozen? ⟨w.heap.size + 1, o, none⟩ = false := fun o => frozen_of_row _ _ _ _ _ EE1.out; have c60 : W6.cell? ⟨w.heap.size + 1, 0, none⟩ = some (.slice ao0 0 c0) := (cell_of_row _ _ _ _ _ _ EE1.out).trans rfl; have c61 : W6.cell? ⟨w.heap.size + 1, 1, none⟩ = some sv := (cell_of_row _ _ _ _ _ _ EE1.out).trans rfl))
              have HK6 := Lib.hid (show Kept (fun b => b < w.heap.size ∨ w.heap.size + 3 ≤ b) W3 (W6.setCell ⟨w.heap.size + 1, 0, none⟩ (.slice ao6 n6 c6)) from kept_trans (kept_below HB6.out) HB6.out.size (kept_setCell (by simp only []; omega)))
              have HK7 := Lib.hid (show Kept (fun b => b < w.heap.size ∨ w.heap.size + 3 ≤ b) W6 (W6.setCell ⟨w.heap.size + 1, 0, none⟩ (.slice ao6 n6 c6)) from kept_setCell (by simp only []; omega))
              have LA := Lib.hid (show ListOk (fun b => b < w.heap.size ∨ w.heap.size + 3 ≤ b) W6 (.slice ao6 n6 c6) (([] : List (List Int)) ++ ms2) from listOk_app HO6.out (show [] ++ news1 ++ news2 = news1 ++ news2 from rfl) (fun b q => .inr (by omega)) (by simp only [Nat.zero_add]) (by unfold maxLen; omega) hlen1 (fun i m hi => by obtain ⟨x, hx, hm⟩ := EL1.out i m hi; exact ⟨x, hx, hm.keep (kept_below HB6.out)⟩) (fun i m hi => by obtain ⟨x, hx, hm⟩ := EL2.out i m hi; exact ⟨x, hx, hm.keep (kept_below HB6.out)⟩))
              have hF0 := Lib.hid (show ∀ m ∈ r, MsgOk m from fun m' hm => h1 m' (List.mem_cons_of_mem _ hm))
              have hF1 := Lib.hid (show ∀ m ∈ ([] : List (List Int)) ++ ms2, MsgOk m from fun m' hm => (List.mem_append.1 hm).elim (h0 m') (f2 m'))
              have hF2 : r.length + (([] : List (List Int)) ++ ms2).length + 2 * n ≤ 1000 := by simp only [List.length_cons, List.length_append] at hlen ⊢; omega
              have G0 := Lib.hid (show (W6.setCell ⟨w.heap.size + 1, 0, none⟩ (.slice ao6 n6 c6)).heap[w.heap.size]? = _ from row_set (by simp only []; omega) (row_below HB6.out E0.out))
              have G1 := Lib.hid (show (W6.setCell ⟨w.heap.size + 1, 0, none⟩ (.slice ao6 n6 c6)).heap[w.heap.size + 1]? = some (.cells #[.slice ao6 n6 c6, sv] 40) from heap_setCell_same _ _ 0 _ _ _ EE1.out)
              have G2 := Lib.hid (show (W6.setCell ⟨w.heap.size + 1, 0, none⟩ (.slice ao6 n6 c6)).heap[w.heap.size + 1 + 1]? = _ from row_set (by simp only []; omega) (row_below HB6.out E2.out))
              have HBG := Lib.hid ((HBE.out.trans (HB6.out.mono (by omega))).setCell (p := ⟨w.heap.size + 1, 0, none⟩) (by simp only []; omega) (.slice ao6 n6 c6))
              have LR := Lib.hid (NT.out.keep HK6.out)
              have LA2 := Lib.hid (LA.out.keep HK7.out)
              clear HB6 HO6 HB5 HO5 HV5 EE1 E0 E1 E2 NT NO NM RD1 RD2 EL1 EL2 HK6 HK7 LA HBE
              go_wp2_with fail
              go_roundg (100 - (k + 1))
              case measure => omega
              case rel => exact ⟨k + 1, by omega, rfl, rfl, k2, y, [] ++ ms2, r, .slice ao6 n6 c6, sv, HBG.out, G0.out, G1.out, G2.out, LA2.out, LR.out, f1, hy, hF1.out, hF0.out, by omega, by rw [show 100 - (k + 1) = n by omega]; exact hres⟩
            · rw [if_neg he] at hres
              subst hres
              have he' : (er != 0) = true := by simpa using he
              have hez : (er == 0) = false := by simpa using he
              go_wp2_with (first
                | (with_reducible refine wpList_load_row rfl 28 (.tmp 3) rfl w.heap.size rfl 28 (pairCells x y) (0, 0) _ C0.out Try.underlying28 rfl HIP.out ?_)
                | ((with_reducible refine wpList_store_rowTo rfl 28 (.tmp 6) (.tmp 44) rfl rfl (w.heap.size + 1 + 1) (pairCells x y) ?_ ?_ 28 zp C2.out HIP.out rfl (pair_one _ _) ?_); (as_aux_lemma => kernel_rfl); (as_aux_lemma => kernel_rfl)))
              refine bodyPost_ret (results_row2 rfl _ _ (w.heap.size + 1 + 1) 28 (pairCells x y) (0, 0) _ rfl (setRow_heap _ _ _ _ _ _ C2.out) Try.underlying28 rfl HIP.out) rfl ?_
              exact ⟨rfl, below_setRow' HBC.out (by omega) _⟩
      | cons m r =>
        obtain ⟨lb, lo, lc, rfl, hL, hLm, ⟨mv, hmv, hmi⟩, ltail⟩ := l0.tail
        have hR := fine_handle hy m now
        simp only [passF] at hres
        generalize hg : pHandle y m now = rr at hres hR
        have HX := Lib.hid (fun W (hm : MsgIn W mv m) => hg ▸ handle_any y hy now mv m W hm)
        have HMI := Lib.hid hmi
        clear hg hmi
        obtain ⟨k2, ms2, er⟩ := rr
        obtain ⟨f1, f2, f3⟩ := hR
        simp only [] at f1 f2 f3 hres
        have HI := Lib.hid (link_info2 y)
        have HI2 := Lib.hid (link_info2 k2)
        have hLz : (((r.length + 1 : Nat) : Int) == 0) = false := by simp; omega
        have hLp : (0 : Int) < ((r.length + 1 : Nat) : Int) := by omega
        go_upto_region 9 with fail
        go_cut [10, 11, 12] (fun t10 t11 t12 wx => ∃ T v2, t10 = .pointer (some ⟨T, 0, none⟩) ∧ t11 = v2 ∧ t12 = .int .i64 er ∧ wr.heap.size ≤ T ∧ wx.heap[T]? = some (.cells k2.cells 27) ∧ Below wr.heap.size wr wx ∧ ListOk (fun b => wr.heap.size ≤ b) wx v2 ms2)
        case first =>
          refine wp_region_held_drew (S := fun w' => Below wr.heap.size wr w') (by kernel_rfl) ((Below.refl _ _).drew) (fun hHeld => ?_)
          refine wpAnyH_take (i := 0) (v := .int .i64 0) rfl (by kernel_rfl) (by kernel_rfl) (by kernel_rfl) (fun _ _ _ h => h) (Or.inl ⟨by rfl, by intro w hSw; clear hHeld hSw; go_simp; (try rfl)⟩) (by assumption) ?_
          simp only [Act.put, List.setIfInBounds_toArray, List.set_cons_zero, List.set_cons_succ, List.getElem_toArray, List.getElem_cons_succ, List.getElem_cons_zero]
          refine wpAnyH_take (i := 1) (v := .int .i64 1) rfl (by kernel_rfl) (by kernel_rfl) (by kernel_rfl) (fun _ _ _ h => h) (Or.inl ⟨by rfl, by intro w hSw; clear hHeld hSw; go_simp; (try rfl)⟩) (by assumption) ?_
          simp only [Act.put, List.setIfInBounds_toArray, List.set_cons_zero, List.set_cons_succ, List.getElem_toArray, List.getElem_cons_succ, List.getElem_cons_zero]
          refine wpAnyH_take (i := 2) (v := .pointer (some ⟨w.heap.size, 17, none⟩)) rfl (by kernel_rfl) (by kernel_rfl) (by kernel_rfl) (fun _ _ _ h => h) (Or.inl ⟨by rfl, by intro w hSw; clear hHeld hSw; go_simp; (try rfl)⟩) (by assumption) ?_
          simp only [Act.put, List.setIfInBounds_toArray, List.set_cons_zero, List.set_cons_succ, List.getElem_toArray, List.getElem_cons_succ, List.getElem_cons_zero]
          refine wpAnyH_take (i := 3) (v := .agg y.cells) rfl (by kernel_rfl) (by kernel_rfl) (by kernel_rfl) (fun _ _ _ h => h) (yields_sub (by rfl) 27 _ rfl (w.heap.size) 17 (by rfl) y.cells _ (fun w' h' => range_pair1 (row_below h' R0.out)) Try.underlying27 rfl HI.out) (by assumption) ?_
          simp only [Act.put, List.setIfInBounds_toArray, List.set_cons_zero, List.set_cons_succ, List.getElem_toArray, List.getElem_cons_succ, List.getElem_cons_zero]
          refine wpAnyH_take (i := 4) (v := .int .i64 0) rfl (by kernel_rfl) (by kernel_rfl) (by kernel_rfl) (fun _ _ _ h => h) (Or.inl ⟨by rfl, by intro w hSw; clear hHeld hSw; go_simp; (try rfl)⟩) (by assumption) ?_
          simp only [Act.put, List.setIfInBounds_toArray, List.set_cons_zero, List.set_cons_succ, List.getElem_toArray, List.getElem_cons_succ, List.getElem_cons_zero]
          refine wpAnyH_take (i := 5) (v := .pointer (some ⟨w.heap.size + 1, 0, none⟩)) rfl (by kernel_rfl) (by kernel_rfl) (by kernel_rfl) (fun _ _ _ h => h) (Or.inl ⟨by rfl, by intro w hSw; clear hHeld hSw; go_simp; (try rfl)⟩) (by assumption) ?_
          simp only [Act.put, List.setIfInBounds_toArray, List.set_cons_zero, List.set_cons_succ, List.getElem_toArray, List.getElem_cons_succ, List.getElem_cons_zero]
          refine wpAnyH_take (i := 6) (v := .slice (some ⟨lb, lo, none⟩) (r.length + 1) lc) rfl (by kernel_rfl) (by kernel_rfl) (by kernel_rfl) (fun _ _ _ h => h) (Or.inl ⟨by rfl, by intro w hSw; have tq := below_kept hSw t0; clear hHeld hSw; go_simp⟩) (by assumption) ?_
          simp only [Act.put, List.setIfInBounds_toArray, List.set_cons_zero, List.set_cons_succ, List.getElem_toArray, List.getElem_cons_succ, List.getElem_cons_zero]
          refine wpAnyH_take (i := 7) (v := .pointer (some ⟨lb, lo, none⟩)) rfl (by kernel_rfl) (by kernel_rfl) (by kernel_rfl) (fun _ _ _ h => h) (Or.inl ⟨by rfl, by intro w hSw; clear hHeld hSw; go_simp; (try rfl)⟩) (by assumption) ?_
          simp only [Act.put, List.setIfInBounds_toArray, List.set_cons_zero, List.set_cons_succ, List.getElem_toArray, List.getElem_cons_succ, List.getElem_cons_zero]
          refine wpAnyH_take (i := 8) (v := mv) rfl (by kernel_rfl) (by kernel_rfl) (by kernel_rfl) (fun _ _ _ h => h) (Or.inl ⟨by rfl, by intro w hSw; have tq := below_kept hSw hmv; clear hHeld hSw; go_simp⟩) (by assumption) ?_
          simp only [Act.put, List.setIfInBounds_toArray, List.set_cons_zero, List.set_cons_succ, List.getElem_toArray, List.getElem_cons_succ, List.getElem_cons_zero]
          refine wpAnyH_take (i := 9) (v := .int .i64 now) rfl (by kernel_rfl) (by kernel_rfl) (by kernel_rfl) (fun _ _ _ h => h) (Or.inl ⟨by rfl, by intro w hSw; clear hHeld hSw; go_simp; (try rfl)⟩) (by assumption) ?_
          simp only [Act.put, List.setIfInBounds_toArray, List.set_cons_zero, List.set_cons_succ, List.getElem_toArray, List.getElem_cons_succ, List.getElem_cons_zero]
          refine wpAnyH_ready (rs := [10, 15]) (by kernel_rfl) (by simp) ?_
          refine AllReadyH.cons (i := 10) (rs := [15]) rfl ?_ (AllReadyH.cons (i := 15) (rs := []) rfl ?_ AllReadyH.nil)
          · intro Kq hKq
            simp only [List.getElem_toArray, List.getElem_cons_succ, List.getElem_cons_zero]
            rw [if_pos (by rfl)]
            refine wp_call_fn 20 #[.agg y.cells, mv, .int .i64 now] (_) (by as_aux_lemma => kernel_rfl) (HX.out _ HMI.out) ?_
            rintro e w1 ⟨v2, rfl, hO, hb⟩
            have HB1 := Lib.hid hb
            have HBZ : wr.heap.size ≤ w1.heap.size := hb.size
            refine ⟨.tuple #[.agg k2.cells, v2, .int .i64 er], rfl, ?_⟩
            refine hKq.out _ _ ((Below.refl _ _).drew.trans hb) (fun hHeld2 => ?_)
            clear hKq Kq hHeld
            have hHeld := hHeld2
            clear hHeld2
            simp only [Act.put, List.setIfInBounds_toArray, List.set_cons_zero, List.set_cons_succ]
            refine wpAnyH_take (i := 11) (v := .tuple #[.agg k2.cells, v2, .int .i64 er]) rfl (by kernel_rfl) (by kernel_rfl) (by kernel_rfl) (fun _ _ _ h => h) (Or.inl ⟨by rfl, by intro w hSw; clear hHeld hSw; go_simp; (try rfl)⟩) (by assumption) ?_
            simp only [Act.put, List.setIfInBounds_toArray, List.set_cons_zero, List.set_cons_succ, List.getElem_toArray, List.getElem_cons_succ, List.getElem_cons_zero]
            refine wpAnyH_take (i := 12) (v := .agg k2.cells) rfl (by kernel_rfl) (by kernel_rfl) (by kernel_rfl) (fun _ _ _ h => h) (Or.inl ⟨by rfl, by intro w hSw; clear hHeld hSw; go_simp; (try rfl)⟩) (by assumption) ?_
            simp only [Act.put, List.setIfInBounds_toArray, List.set_cons_zero, List.set_cons_succ, List.getElem_toArray, List.getElem_cons_succ, List.getElem_cons_zero]
            refine wpAnyH_take (i := 13) (v := v2) rfl (by kernel_rfl) (by kernel_rfl) (by kernel_rfl) (fun _ _ _ h => h) (Or.inl ⟨by rfl, by intro w hSw; clear hHeld hSw; go_simp; (try rfl)⟩) (by assumption) ?_
            simp only [Act.put, List.setIfInBounds_toArray, List.set_cons_zero, List.set_cons_succ, List.getElem_toArray, List.getElem_cons_succ, List.getElem_cons_zero]
            refine wpAnyH_take (i := 14) (v := .int .i64 er) rfl (by kernel_rfl) (by kernel_rfl) (by kernel_rfl) (fun _ _ _ h => h) (Or.inl ⟨by rfl, by intro w hSw; clear hHeld hSw; go_simp; (try rfl)⟩) (by assumption) ?_
            simp only [Act.put, List.setIfInBounds_toArray, List.set_cons_zero, List.set_cons_succ, List.getElem_toArray, List.getElem_cons_succ, List.getElem_cons_zero]
            refine wpAnyH_ready (rs := [15]) (by kernel_rfl) (by simp) ?_
            refine AllReadyH.cons (i := 15) (rs := []) rfl ?_ AllReadyH.nil
            intro Kq hKq
            simp only [List.getElem_toArray, List.getElem_cons_succ, List.getElem_cons_zero]
            rw [if_pos (by rfl)]
            refine wp_op_value (.pointer (some ⟨w1.heap.size, 0, none⟩)) (w1.alloc (.cells #[.int .u8 0, .int .u8 0, .int .u8 0, .int .u8 0, .int .u8 0, .int .u8 0, .int .u8 0, .int .u8 0, .int .u8 0, .int .u8 0, .int .u8 0, .int .u8 0, .int .u8 0, .int .i64 0, .int .i64 0, .int .i64 0, .int .i64 0] 27)) (by as_aux_lemma => kernel_rfl) ?_
            refine hKq.out _ _ (hHeld.alloc hHeld.size _) (fun hHeld2 => ?_)
            clear hKq Kq hHeld
            have hHeld := hHeld2
            clear hHeld2
            simp only [Act.put, List.setIfInBounds_toArray, List.set_cons_zero, List.set_cons_succ]
            refine wpAnyH_ready (rs := [16]) (by kernel_rfl) (by simp) ?_
            refine AllReadyH.cons (i := 16) (rs := []) rfl ?_ AllReadyH.nil
            intro Kq hKq
            simp only [List.getElem_toArray, List.getElem_cons_succ, List.getElem_cons_zero]
            rw [if_pos (by rfl)]
            have HBA := Lib.hid (show Below wr.heap.size wr (w1.alloc (.cells k2.cells 27)) from ((Below.refl _ _).drew.trans HB1.out).alloc HBZ _)
            refine wp_store_row 27 (.tmp 10) (.tmp 39) (by rfl) (w1.heap.size) k2.cells (by as_aux_lemma => kernel_rfl) (by as_aux_lemma => kernel_rfl) 27 #[.int .u8 0, .int .u8 0, .int .u8 0, .int .u8 0, .int .u8 0, .int .u8 0, .int .u8 0, .int .u8 0, .int .u8 0, .int .u8 0, .int .u8 0, .int .u8 0, .int .u8 0, .int .i64 0, .int .i64 0, .int .i64 0, .int .i64 0] (heap_alloc_new _ _) HI2.out (by as_aux_lemma => kernel_rfl) (one_cells _) ?_
            rw [setRow_alloc]
            refine hKq.out _ _ (HBA.out) (fun hHeld2 => ?_)
            clear hKq Kq hHeld
            have hHeld := hHeld2
            clear hHeld2
            simp only [Act.put, List.setIfInBounds_toArray, List.set_cons_zero, List.set_cons_succ]
            refine wpAnyH_take (i := 17) (v := v2) rfl (by kernel_rfl) (by kernel_rfl) (by kernel_rfl) (fun _ _ _ h => h) (Or.inl ⟨by rfl, by intro w hSw; clear hHeld hSw; go_simp; (try rfl)⟩) (by assumption) ?_
            simp only [Act.put, List.setIfInBounds_toArray, List.set_cons_zero, List.set_cons_succ, List.getElem_toArray, List.getElem_cons_succ, List.getElem_cons_zero]
            refine wpAnyH_take (i := 18) (v := .int .i64 er) rfl (by kernel_rfl) (by kernel_rfl) (by kernel_rfl) (fun _ _ _ h => h) (Or.inl ⟨by rfl, by intro w hSw; clear hHeld hSw; go_simp; (try rfl)⟩) (by assumption) ?_
            simp only [Act.put, List.setIfInBounds_toArray, List.set_cons_zero, List.set_cons_succ, List.getElem_toArray, List.getElem_cons_succ, List.getElem_cons_zero]
            clear hHeld
            refine wpAnyH_done (by kernel_rfl) ?_ _
            have HT : wr.heap.size ≤ w1.heap.size ∧ (w1.alloc (.cells k2.cells 27)).heap[w1.heap.size]? = some (.cells k2.cells 27) ∧ Below wr.heap.size wr (w1.alloc (.cells k2.cells 27)) ∧ ListOk (fun b => wr.heap.size ≤ b) (w1.alloc (.cells k2.cells 27)) v2 ms2 := ⟨HBZ, heap_alloc_new _ _, HBA.out, ((hO.listOk f2 (Nat.le_trans f3 (by unfold maxLen; decide))).mono (fun b q => Nat.le_trans (by simp only [drew_heap]; omega) q)).keep (kept_below ((Below.refl _ _).alloc (Nat.le_refl _) _))⟩
            go_wp2_with fail
            go_meet
            case rel => exact ⟨_, _, rfl, rfl, rfl, HT⟩
          · intro Kq hKq
            simp only [List.getElem_toArray, List.getElem_cons_succ, List.getElem_cons_zero]
            rw [if_pos (by rfl)]
            refine wp_op_value (.pointer (some ⟨wr.heap.size, 0, none⟩)) (wr.drew.alloc (.cells #[.int .u8 0, .int .u8 0, .int .u8 0, .int .u8 0, .int .u8 0, .int .u8 0, .int .u8 0, .int .u8 0, .int .u8 0, .int .u8 0, .int .u8 0, .int .u8 0, .int .u8 0, .int .i64 0, .int .i64 0, .int .i64 0, .int .i64 0] 27)) (by as_aux_lemma => kernel_rfl) ?_
            refine hKq.out _ _ (((Below.refl _ _).drew.alloc (Nat.le_refl _) _)) (fun hHeld2 => ?_)
            clear hKq Kq hHeld
            have hHeld := hHeld2
            clear hHeld2
            simp only [Act.put, List.setIfInBounds_toArray, List.set_cons_zero, List.set_cons_succ]
            refine wpAnyH_ready (rs := [10]) (by kernel_rfl) (by simp) ?_
            refine AllReadyH.cons (i := 10) (rs := []) rfl ?_ AllReadyH.nil
            intro Kq hKq
            simp only [List.getElem_toArray, List.getElem_cons_succ, List.getElem_cons_zero]
            rw [if_pos (by rfl)]
            refine wp_call_fn 20 #[.agg y.cells, mv, .int .i64 now] (_) (by as_aux_lemma => kernel_rfl) (HX.out _ (HMI.out.below ((Below.refl _ _).drew.alloc (Nat.le_refl _) _))) ?_
            rintro e w1 ⟨v2, rfl, hO, hb⟩
            refine ⟨.tuple #[.agg k2.cells, v2, .int .i64 er], rfl, ?_⟩
            refine hKq.out _ _ ((hHeld.trans (hb.mono (by simp only [World.size_alloc, drew_heap]; omega)))) (fun hHeld2 => ?_)
            clear hKq Kq hHeld
            have hHeld := hHeld2
            clear hHeld2
            simp only [Act.put, List.setIfInBounds_toArray, List.set_cons_zero, List.set_cons_succ]
            refine wpAnyH_take (i := 11) (v := .tuple #[.agg k2.cells, v2, .int .i64 er]) rfl (by kernel_rfl) (by kernel_rfl) (by kernel_rfl) (fun _ _ _ h => h) (Or.inl ⟨by rfl, by intro w hSw; clear hHeld hSw; go_simp; (try rfl)⟩) (by assumption) ?_
            simp only [Act.put, List.setIfInBounds_toArray, List.set_cons_zero, List.set_cons_succ, List.getElem_toArray, List.getElem_cons_succ, List.getElem_cons_zero]
            refine wpAnyH_take (i := 12) (v := .agg k2.cells) rfl (by kernel_rfl) (by kernel_rfl) (by kernel_rfl) (fun _ _ _ h => h) (Or.inl ⟨by rfl, by intro w hSw; clear hHeld hSw; go_simp; (try rfl)⟩) (by assumption) ?_
            simp only [Act.put, List.setIfInBounds_toArray, List.set_cons_zero, List.set_cons_succ, List.getElem_toArray, List.getElem_cons_succ, List.getElem_cons_zero]
            refine wpAnyH_take (i := 13) (v := v2) rfl (by kernel_rfl) (by kernel_rfl) (by kernel_rfl) (fun _ _ _ h => h) (Or.inl ⟨by rfl, by intro w hSw; clear hHeld hSw; go_simp; (try rfl)⟩) (by assumption) ?_
            simp only [Act.put, List.setIfInBounds_toArray, List.set_cons_zero, List.set_cons_succ, List.getElem_toArray, List.getElem_cons_succ, List.getElem_cons_zero]
            refine wpAnyH_take (i := 14) (v := .int .i64 er) rfl (by kernel_rfl) (by kernel_rfl) (by kernel_rfl) (fun _ _ _ h => h) (Or.inl ⟨by rfl, by intro w hSw; clear hHeld hSw; go_simp; (try rfl)⟩) (by assumption) ?_
            simp only [Act.put, List.setIfInBounds_toArray, List.set_cons_zero, List.set_cons_succ, List.getElem_toArray, List.getElem_cons_succ, List.getElem_cons_zero]
            refine wpAnyH_ready (rs := [16]) (by kernel_rfl) (by simp) ?_
            refine AllReadyH.cons (i := 16) (rs := []) rfl ?_ AllReadyH.nil
            intro Kq hKq
            simp only [List.getElem_toArray, List.getElem_cons_succ, List.getElem_cons_zero]
            rw [if_pos (by rfl)]
            have HRT := Lib.hid (show w1.heap[wr.heap.size]? = some (.cells #[.int .u8 0, .int .u8 0, .int .u8 0, .int .u8 0, .int .u8 0, .int .u8 0, .int .u8 0, .int .u8 0, .int .u8 0, .int .u8 0, .int .u8 0, .int .u8 0, .int .u8 0, .int .i64 0, .int .i64 0, .int .i64 0, .int .i64 0] 27) from row_below hb (heap_alloc_new _ _))
            have HBA := Lib.hid (below_setRow' hHeld (Nat.le_refl _) k2.cells)
            refine wp_store_row 27 (.tmp 10) (.tmp 39) (by rfl) (wr.heap.size) k2.cells (by as_aux_lemma => kernel_rfl) (by as_aux_lemma => kernel_rfl) 27 #[.int .u8 0, .int .u8 0, .int .u8 0, .int .u8 0, .int .u8 0, .int .u8 0, .int .u8 0, .int .u8 0, .int .u8 0, .int .u8 0, .int .u8 0, .int .u8 0, .int .u8 0, .int .i64 0, .int .i64 0, .int .i64 0, .int .i64 0] HRT.out HI2.out (by as_aux_lemma => kernel_rfl) (one_cells _) ?_
            refine hKq.out _ _ (HBA.out) (fun hHeld2 => ?_)
            clear hKq Kq hHeld
            have hHeld := hHeld2
            clear hHeld2
            simp only [Act.put, List.setIfInBounds_toArray, List.set_cons_zero, List.set_cons_succ]
            refine wpAnyH_take (i := 17) (v := v2) rfl (by kernel_rfl) (by kernel_rfl) (by kernel_rfl) (fun _ _ _ h => h) (Or.inl ⟨by rfl, by intro w hSw; clear hHeld hSw; go_simp; (try rfl)⟩) (by assumption) ?_
            simp only [Act.put, List.setIfInBounds_toArray, List.set_cons_zero, List.set_cons_succ, List.getElem_toArray, List.getElem_cons_succ, List.getElem_cons_zero]
            refine wpAnyH_take (i := 18) (v := .int .i64 er) rfl (by kernel_rfl) (by kernel_rfl) (by kernel_rfl) (fun _ _ _ h => h) (Or.inl ⟨by rfl, by intro w hSw; clear hHeld hSw; go_simp; (try rfl)⟩) (by assumption) ?_
            simp only [Act.put, List.setIfInBounds_toArray, List.set_cons_zero, List.set_cons_succ, List.getElem_toArray, List.getElem_cons_succ, List.getElem_cons_zero]
            clear hHeld
            refine wpAnyH_done (by kernel_rfl) ?_ _
            have HT : wr.heap.size ≤ wr.heap.size ∧ (w1.setRow wr.heap.size k2.cells).heap[wr.heap.size]? = some (.cells k2.cells 27) ∧ Below wr.heap.size wr (w1.setRow wr.heap.size k2.cells) ∧ ListOk (fun b => wr.heap.size ≤ b) (w1.setRow wr.heap.size k2.cells) v2 ms2 := ⟨Nat.le_refl _, setRow_heap _ _ _ _ _ _ HRT.out, HBA.out, ((hO.setRow wr.heap.size (by simp only [World.size_alloc, drew_heap]; omega) k2.cells).listOk f2 (Nat.le_trans f3 (by unfold maxLen; decide))).mono (fun b q => Nat.le_trans (by simp only [World.size_alloc, drew_heap]; omega) q)⟩
            go_wp2_with fail
            go_meet
            case rel => exact ⟨_, _, rfl, rfl, rfl, HT⟩
        case rest =>
          obtain ⟨T, v2, rfl, rfl, rfl, hT, rT, hbx, lx⟩ := hcut
          have C0 := Lib.hid (row_below hbx R0.out)
          have C1 := Lib.hid (row_below hbx R1.out)
          have C2 := Lib.hid (row_below hbx R2.out)
          have CT := Lib.hid rT
          have hsz2 := hbx.size
          have cf : ∀ o, wc.frozen? ⟨w.heap.size + 1, o, none⟩ = false := fun o => frozen_of_row _ _ _ _ _ C1.out
          have q0 : wc.cell? ⟨w.heap.size + 1, 0, none⟩ = some (.slice (some ⟨lb, lo, none⟩) (r.length + 1) lc) := (cell_of_row _ _ _ _ _ _ C1.out).trans rfl
          have q1 : wc.cell? ⟨w.heap.size + 1, 1, none⟩ = some v1 := (cell_of_row _ _ _ _ _ _ C1.out).trans rfl
          have LT2 := Lib.hid (ltail.keep (kept_below hbx))
          have LO2 := Lib.hid (l1.keep (kept_below hbx))
          have LM2 := Lib.hid (lx.mono (ok' := fun b => b < w.heap.size ∨ w.heap.size + 3 ≤ b) fun b q => .inr (by omega))
          have HTH := Lib.hid (show wc.there w.heap.size 17 k2.cells.size from there_of_row C0.out 17 17 (by rw [pair_size]; decide))
          have HBC := Lib.hid (HB.out.trans (hbx.mono (by omega)))
          clear R0 R1 R2 rT t0 t1 hmv ltail l0 l1 HB hbx lx HMI HX
          by_cases he : er = 0
          · subst he
            rw [if_pos rfl] at hres
            go_upto_region 13 with (first
              | (with_reducible refine wpList_load_row rfl 27 (.tmp 10) rfl T rfl 27 k2.cells (0, 0) _ CT.out Try.underlying27 rfl HI2.out ?_)
              | ((with_reducible refine wpList_store_midTo rfl rfl 27 (.tmp 48) (.tmp 47) rfl w.heap.size 17 k2.cells ?_ ?_ HTH.out HI2.out (one_cells _) ?_); (as_aux_lemma => kernel_rfl); (as_aux_lemma => kernel_rfl)))
            have D0 := Lib.hid (show (wc.setCells w.heap.size 17 k2.cells.toList).heap[w.heap.size]? = some (.cells (pairCells x k2) 28) from (heap_setCells_same _ _ _ _ _ _ C0.out).trans (by rw [put_pair1]))
            have D1 := Lib.hid (show (wc.setCells w.heap.size 17 k2.cells.toList).heap[w.heap.size + 1]? = _ from (heap_setCells_far _ _ _ _ _ (by omega)).trans C1.out)
            have D2 := Lib.hid (show (wc.setCells w.heap.size 17 k2.cells.toList).heap[w.heap.size + 1 + 1]? = _ from (heap_setCells_far _ _ _ _ _ (by omega)).trans C2.out)
            have HK2 := Lib.hid (show Kept (fun b => b < w.heap.size ∨ w.heap.size + 3 ≤ b) wc (wc.setCells w.heap.size 17 k2.cells.toList) from kept_setCells (by omega))
            have MT2 := Lib.hid (LT2.out.keep HK2.out)
            have MO2 := Lib.hid (LO2.out.keep HK2.out)
            have MM2 := Lib.hid (LM2.out.keep HK2.out)
            have HBD := Lib.hid (below_setCells' (Nat.le_refl w.heap.size) k2.cells.toList 17 _ _ HBC.out)
            have hsz3 : wr.heap.size ≤ (wc.setCells w.heap.size 17 k2.cells.toList).heap.size := by rw [size_setCells']; exact hsz2
            clear C0 C1 C2 CT HTH HK2 LT2 LO2 LM2 HBC q0 q1 cf hsz2
            generalize wc.setCells w.heap.size 17 k2.cells.toList = W2 at *
            have cf : ∀ o, W2.frozen? ⟨w.heap.size + 1, o, none⟩ = false := fun o => frozen_of_row _ _ _ _ _ D1.out
            have q0 : W2.cell? ⟨w.heap.size + 1, 0, none⟩ = some (.slice (some ⟨lb, lo, none⟩) (r.length + 1) lc) := (cell_of_row _ _ _ _ _ _ D1.out).trans rfl
            have q1 : W2.cell? ⟨w.heap.size + 1, 1, none⟩ = some v1 := (cell_of_row _ _ _ _ _ _ D1.out).trans rfl
            go_upto_region 14 with fail
            have E0 := Lib.hid (show (W2.setCell ⟨w.heap.size + 1, 0, none⟩ (.slice (if lc = 1 then some ⟨lb, lo, none⟩ else some ⟨lb, lo + 1, none⟩) r.length (lc - 1))).heap[w.heap.size]? = _ from row_set (by simp only []; omega) D0.out)
            have E1 := Lib.hid (show (W2.setCell ⟨w.heap.size + 1, 0, none⟩ (.slice (if lc = 1 then some ⟨lb, lo, none⟩ else some ⟨lb, lo + 1, none⟩) r.length (lc - 1))).heap[w.heap.size + 1]? = some (.cells #[(.slice (if lc = 1 then some ⟨lb, lo, none⟩ else some ⟨lb, lo + 1, none⟩) r.length (lc - 1)), v1] 40) from heap_setCell_same _ _ 0 _ _ _ D1.out)
            have E2 := Lib.hid (show (W2.setCell ⟨w.heap.size + 1, 0, none⟩ (.slice (if lc = 1 then some ⟨lb, lo, none⟩ else some ⟨lb, lo + 1, none⟩) r.length (lc - 1))).heap[w.heap.size + 1 + 1]? = _ from row_set (by simp only []; omega) D2.out)
            have HK3 := Lib.hid (show Kept (fun b => b < w.heap.size ∨ w.heap.size + 3 ≤ b) W2 (W2.setCell ⟨w.heap.size + 1, 0, none⟩ (.slice (if lc = 1 then some ⟨lb, lo, none⟩ else some ⟨lb, lo + 1, none⟩) r.length (lc - 1))) from kept_setCell (by simp only []; omega))
            have NT := Lib.hid (MT2.out.keep HK3.out)
            have NO := Lib.hid (MO2.out.keep HK3.out)
            have NM := Lib.hid (MM2.out.keep HK3.out)
            have HBE := Lib.hid (HBD.out.setCell (p := ⟨w.heap.size + 1, 0, none⟩) (by simp only []; omega) (.slice (if lc = 1 then some ⟨lb, lo, none⟩ else some ⟨lb, lo + 1, none⟩) r.length (lc - 1)))
            have hsz4 : wr.heap.size ≤ (W2.setCell ⟨w.heap.size + 1, 0, none⟩ (.slice (if lc = 1 then some ⟨lb, lo, none⟩ else some ⟨lb, lo + 1, none⟩) r.length (lc - 1))).heap.size := by rw [World.size_setCell]; exact hsz3
            clear D0 D1 D2 HK3 MT2 MO2 MM2 HBD q0 q1 cf hsz3
            generalize W2.setCell ⟨w.heap.size + 1, 0, none⟩ (.slice (if lc = 1 then some ⟨lb, lo, none⟩ else some ⟨lb, lo + 1, none⟩) r.length (lc - 1)) = W3 at *
            generalize Value.slice (if lc = 1 then some ⟨lb, lo, none⟩ else some ⟨lb, lo + 1, none⟩) r.length (lc - 1) = sv at *
            obtain ⟨news1, rd1, el1⟩ := NO.out.reads
            obtain ⟨news2, rd2, el2⟩ := NM.out.reads
            have RD1 := Lib.hid (rd1 _ (kept_below ((Below.refl W3.heap.size W3).alloc (Nat.le_refl _) (.cells #[] 45))))
            have RD2 := Lib.hid rd2
            have hlen1 : news1.length = o1.length := by obtain ⟨_, _, _, q, _⟩ := RD1.out; exact q
            have EL1 := Lib.hid el1
            have EL2 := Lib.hid el2
            clear rd1 rd2 el1 el2
            have cf : ∀ o, W3.frozen? ⟨w.heap.size + 1, o, none⟩ = false := fun o => frozen_of_row _ _ _ _ _ E1.out
            have q0 : W3.cell? ⟨w.heap.size + 1, 0, none⟩ = some sv := (cell_of_row _ _ _ _ _ _ E1.out).trans rfl
            have q1 : W3.cell? ⟨w.heap.size + 1, 1, none⟩ = some v1 := (cell_of_row _ _ _ _ _ _ E1.out).trans rfl
            have hol : o1.length ≤ 1000 := by simp only [List.length_cons] at hlen; omega
            have hsz5 : w.heap.size + 1 < W3.heap.size := row_lt E1.out
            go_upto_region 3 with (first
              | (refine wpList_append_list rfl (some 62) rfl (.tmp 57) (.tmp 61) rfl W3.heap.size (.slice (some ⟨W3.heap.size, 0, none⟩) 0 0) 0 [] rfl (World.ownsRow_made W3 #[] 0 (Nat.le_refl _) (by unfold maxLen; decide) rfl) v1 (o1.length) news1 rfl RD1.out (by omega) (by simp only [World.size_alloc]; omega) ?_; intro v5 W5 ho5 hg5 ha5; have HO5 := Lib.hid ho5; have HB5 := Lib.hid (((Below.refl W3.heap.size W3).alloc (Nat.le_refl _) _).trans (grownBy_below hg5 (by simp only [World.size_alloc]; omega) (fun k e => by cases e; exact Nat.le_refl _))); have HV5 := Lib.hid (show ∀ k, v5.ownBlock = some k → W3.heap.size ≤ k from fun k e => (ho5.lt k e).1); clear ho5 hg5 ha5)
              | (refine wpList_append_list rfl (some 64) rfl (.tmp 62) (.tmp 63) rfl W3.heap.size v5 (0 + o1.length) ([] ++ news1) rfl HO5.out u11 ms2.length news2 rfl (RD2.out _ (kept_below HB5.out)) (by omega) HB5.out.size ?_; intro v6 W6 ho6 hg6 ha6; obtain ⟨ao6, n6, c6, rfl⟩ := row_slice ho6; have HO6 := Lib.hid ho6; have HB6 := Lib.hid (HB5.out.trans (grownBy_below hg6 HB5.out.size HV5.out)); clear ho6 hg6 ha6; have EE1 := Lib.hid (row_below HB6.out E1.out); have cf6 : ∀ o, W6.frozen? ⟨w.heap.size + 1, o, none⟩ = false := fun o => frozen_of_row _ _ _ _ _ EE1.out; have c60 : W6.cell? ⟨w.heap.size + 1, 0, none⟩ = some sv := (cell_of_row _ _ _ _ _ _ EE1.out).trans rfl; have c61 : W6.cell? ⟨w.heap.size + 1, 1, none⟩ = some v1 := (cell_of_row _ _ _ _ _ _ EE1.out).trans rfl))
            have HK6 := Lib.hid (show Kept (fun b => b < w.heap.size ∨ w.heap.size + 3 ≤ b) W3 (W6.setCell ⟨w.heap.size + 1, 1, none⟩ (.slice ao6 n6 c6)) from kept_trans (kept_below HB6.out) HB6.out.size (kept_setCell (by simp only []; omega)))
            have HK7 := Lib.hid (show Kept (fun b => b < w.heap.size ∨ w.heap.size + 3 ≤ b) W6 (W6.setCell ⟨w.heap.size + 1, 1, none⟩ (.slice ao6 n6 c6)) from kept_setCell (by simp only []; omega))
            have LA := Lib.hid (show ListOk (fun b => b < w.heap.size ∨ w.heap.size + 3 ≤ b) W6 (.slice ao6 n6 c6) (o1 ++ ms2) from listOk_app HO6.out (show [] ++ news1 ++ news2 = news1 ++ news2 from rfl) (fun b q => .inr (by omega)) (by simp only [Nat.zero_add]) (by unfold maxLen; omega) hlen1 (fun i m hi => by obtain ⟨x, hx, hm⟩ := EL1.out i m hi; exact ⟨x, hx, hm.keep (kept_below HB6.out)⟩) (fun i m hi => by obtain ⟨x, hx, hm⟩ := EL2.out i m hi; exact ⟨x, hx, hm.keep (kept_below HB6.out)⟩))
            have hF0 := Lib.hid (show ∀ m ∈ r, MsgOk m from fun m' hm => h0 m' (List.mem_cons_of_mem _ hm))
            have hF1 := Lib.hid (show ∀ m ∈ o1 ++ ms2, MsgOk m from fun m' hm => (List.mem_append.1 hm).elim (h1 m') (f2 m'))
            have hF2 : r.length + (o1 ++ ms2).length + 2 * n ≤ 1000 := by simp only [List.length_cons, List.length_append] at hlen ⊢; omega
            have G0 := Lib.hid (show (W6.setCell ⟨w.heap.size + 1, 1, none⟩ (.slice ao6 n6 c6)).heap[w.heap.size]? = _ from row_set (by simp only []; omega) (row_below HB6.out E0.out))
            have G1 := Lib.hid (show (W6.setCell ⟨w.heap.size + 1, 1, none⟩ (.slice ao6 n6 c6)).heap[w.heap.size + 1]? = some (.cells #[sv, .slice ao6 n6 c6] 40) from heap_setCell_same _ _ 1 _ _ _ EE1.out)
            have G2 := Lib.hid (show (W6.setCell ⟨w.heap.size + 1, 1, none⟩ (.slice ao6 n6 c6)).heap[w.heap.size + 1 + 1]? = _ from row_set (by simp only []; omega) (row_below HB6.out E2.out))
            have HBG := Lib.hid ((HBE.out.trans (HB6.out.mono (by omega))).setCell (p := ⟨w.heap.size + 1, 1, none⟩) (by simp only []; omega) (.slice ao6 n6 c6))
            have LR := Lib.hid (NT.out.keep HK6.out)
            have LA2 := Lib.hid (LA.out.keep HK7.out)
            clear HB6 HO6 HB5 HO5 HV5 EE1 E0 E1 E2 NT NO NM RD1 RD2 EL1 EL2 HK6 HK7 LA HBE
            go_wp2_with fail
            go_roundg (100 - (k + 1))
            case measure => omega
            case rel => exact ⟨k + 1, by omega, rfl, rfl, x, k2, r, o1 ++ ms2, sv, .slice ao6 n6 c6, HBG.out, G0.out, G1.out, G2.out, LR.out, LA2.out, hx, f1, hF0.out, hF1.out, by omega, by rw [show 100 - (k + 1) = n by omega]; exact hres⟩
          · rw [if_neg he] at hres
            subst hres
            have he' : (er != 0) = true := by simpa using he
            have hez : (er == 0) = false := by simpa using he
            go_wp2_with (first
              | (with_reducible refine wpList_load_row rfl 28 (.tmp 3) rfl w.heap.size rfl 28 (pairCells x y) (0, 0) _ C0.out Try.underlying28 rfl HIP.out ?_)
              | ((with_reducible refine wpList_store_rowTo rfl 28 (.tmp 6) (.tmp 44) rfl rfl (w.heap.size + 1 + 1) (pairCells x y) ?_ ?_ 28 zp C2.out HIP.out rfl (pair_one _ _) ?_); (as_aux_lemma => kernel_rfl); (as_aux_lemma => kernel_rfl)))
            refine bodyPost_ret (results_row2 rfl _ _ (w.heap.size + 1 + 1) 28 (pairCells x y) (0, 0) _ rfl (setRow_heap _ _ _ _ _ _ C2.out) Try.underlying28 rfl HIP.out) rfl ?_
            exact ⟨rfl, below_setRow' HBC.out (by omega) _⟩
    · obtain rfl : k = 100 := by omega
      simp only [Nat.sub_self, passF] at hres
      subst hres
      clear h0 h1 hx hy l0 l1
      go_wp2_with (first
        | (with_reducible refine wpList_load_row rfl 28 (.tmp 3) rfl w.heap.size rfl 28 (pairCells x y) (0, 0) _ R0.out Try.underlying28 rfl HIP.out ?_)
        | ((with_reducible refine wpList_store_rowTo rfl 28 (.tmp 6) (.tmp 66) rfl rfl (w.heap.size + 1 + 1) (pairCells x y) ?_ ?_ 28 zp R2.out HIP.out rfl (pair_one _ _) ?_); (as_aux_lemma => kernel_rfl); (as_aux_lemma => kernel_rfl)))
      refine bodyPost_ret (results_row2 rfl _ _ (w.heap.size + 1 + 1) 28 (pairCells x y) (0, 0) _ rfl (setRow_heap _ _ _ _ _ _ R2.out) Try.underlying28 rfl HIP.out) rfl ?_
      exact ⟨rfl, below_setRow' HB.out (by omega) _⟩
end Go.Proofs.Ytmighkgjbohieaa
