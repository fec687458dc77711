/-
  The contract of the law's run: each pair of ends that it hands back is good.
-/
import Derived.Test.YtmighkgjbohieaaPeerRunS
import Derived.Deep.LoopGhost
import Derived.Deep.DeepCutAuto
import Derived.Deep.CutBlock
set_option linter.unusedVariables false
set_option linter.unusedSimpArgs false
namespace Go.Proofs.Ytmighkgjbohieaa
open Go.ChangeShapes Go.WideShapes Go.ChangeAt Go.RowKit Go.Great

/-- What run knows at each round's head. -/
def RunAt (id other : Int) (w0 w : World) (k : Nat) (va : Value) (now : Int) : Prop :=
  ∃ x y g h ka kb s0 s1 v0 v1, Sys id other x y g h ka kb s0 s1 ∧ g ≤ k ∧ h ≤ k ∧ s0.length ≤ 2 * k ∧ s1.length ≤ 2 * k ∧ (0 ≤ now ∧ now ≤ 1000000 * k) ∧ St w0 w va (k + 1) x y s0 s1 v0 v1
/-- What run hands back. -/
def RunR (n : Nat) (w : World) (e : Ending) (w' : World) : Prop := ∃ va base, e = .returned va ∧ AllAt w' base va (n + 1) ∧ Below w.heap.size w w'
theorem mod_nat {a : Int} {n : Nat} (ha : 0 ≤ a) (hn : 0 < n) : ∃ q : Nat, a % (n : Int) = q ∧ q < n := by
  have h1 := Int.emod_nonneg a (show (n : Int) ≠ 0 by omega)
  have h2 := Int.emod_lt_of_pos a (show (0 : Int) < n by omega)
  exact ⟨(a % (n : Int)).toNat, (Int.toNat_of_nonneg h1).symm, by omega⟩
set_option maxRecDepth 100000 in
set_option maxHeartbeats 16000000 in
theorem run_any (id other : Int) (hi : 1 ≤ id ∧ id ≤ 65535) (ho : 1 ≤ other ∧ other ≤ 65535) (v : Value) (n : Nat) (E : Nat → Ev) (hn : n ≤ 100) (hgood : ∀ i, i < n → GoodEv (E i)) (w : World) (hE : EvIn w v n E) :
    Calls Try.prog 13 #[.agg (pairCells (LA 0 id 0 0 0) (LB 0 other 0 0 0)), v] w (RunR n w) := by
  obtain ⟨ao, cap, rfl, hcap, hcm, hev⟩ := hE
  have HEV := Lib.hid hev
  have HGD := Lib.hid hgood
  have HS0 := Lib.hid (sys_zero hi ho)
  have HGP := Lib.hid HS0.out.good
  have hnm : (n : Int) ≤ 100 := by omega
  clear hev hgood
  generalize LA 0 id 0 0 0 = A0 at *
  generalize LB 0 other 0 0 0 = B0 at *
  have HIP0 := Lib.hid (pair_info A0 B0)
  go_enter Try.func13, Try.ntmps13
  have R0 := Lib.hid (fr_rows1 w (.cells (pairCells A0 B0) 28))
  go_upto_region 3 with (first
    | (with_reducible refine wpList_load_row rfl 28 (.tmp 2) rfl w.heap.size rfl 28 (pairCells A0 B0) (0, 0) _ R0.out Try.underlying28 rfl HIP0.out ?_)
    | (with_reducible refine wpList_buildSliceTo rfl 32 28 1 #[(0, .tmp 14)] rfl (w.heap.size + 1) (by simp only [World.size_alloc]) (some 15) rfl u32 (pairCells A0 B0) (by as_aux_lemma => kernel_rfl) ?_))
  have HST := Lib.hid (st_start w A0 B0 HGP.out)
  go_wp2_with fail
  go_loopg [5, 7, 8] n (fun g va now i wr => ∃ (k : Nat) (N : Int), k ≤ n ∧ g = n - k ∧ i = .int .i64 k ∧ now = .int .i64 N ∧ RunAt id other w wr k va N)
  case atStart => exact ⟨0, 0, by omega, by omega, rfl, rfl, A0, B0, 0, 0, _, _, [], [], _, _, HS0.out, by omega, by omega, by simp, by simp, by omega, HST.out⟩
  case round =>
    clear R0 HST HS0 HGP HIP0
    obtain ⟨k, N, hk, rfl, rfl, rfl, hp⟩ := hrel
    obtain ⟨x, y, g, h, ka, kb, s0, s1, v0, v1, hS, hgk, hhk, hl0, hl1, ⟨hN0, hN1⟩, hst⟩ := hp
    have S := Lib.hid hS
    have T := Lib.hid hst
    clear hS hst
    by_cases hlt : k < n
    · obtain ⟨b, o, rfl, hc⟩ := HEV.out (by omega)
      obtain ⟨a0, a1, a2, a3, e0, e1, e2, e3⟩ := hc k hlt
      obtain ⟨gw0, gw1, gw2⟩ := HGD.out k hlt
      have hbe := T.out.below
      have c0 := below_kept hbe a0
      have c1 := below_kept hbe a1
      have c2 := below_kept hbe a2
      have c3 := below_kept hbe a3
      clear hc a0 a1 a2 a3 hbe e2 e3
      generalize (E k).kd = kd at *
      generalize (E k).tt = tt at *
      generalize (E k).wh = wh at *
      generalize (E k).wt = wt at *
      have hlz : (k : Int) < n := by omega
      have hk0 : (0 : Int) ≤ k := by omega
      have hN2 : N ≤ 100000000 := by omega
      have hat : tt % 2 = 0 ∨ tt % 2 = 1 := by omega
      rcases hat with hat | hat
      · go_upto_block 2 with fail
        obtain ⟨aoX, cX, eX⟩ := out_form T.out.l1
        subst eX
        have HIX := Lib.hid (link_info2 x)
        obtain ⟨re, rt⟩ := fr_rows2 wr (.cells #[.int .u8 kd, .int .u8 tt, .int .i64 wh, .int .i64 wt] 56) (.cells #[.int .u8 0, .int .u8 0, .int .u8 0, .int .u8 0, .int .u8 0, .int .u8 0, .int .u8 0, .int .u8 0, .int .u8 0, .int .u8 0, .int .u8 0, .int .u8 0, .int .u8 0, .int .i64 0, .int .i64 0, .int .i64 0, .int .i64 0] 27)
        have RE := Lib.hid re
        have RT := Lib.hid rt
        have HBW := Lib.hid (show Below wr.heap.size wr ((wr.alloc (.cells #[.int .u8 kd, .int .u8 tt, .int .i64 wh, .int .i64 wt] 56)).alloc (.cells #[.int .u8 0, .int .u8 0, .int .u8 0, .int .u8 0, .int .u8 0, .int .u8 0, .int .u8 0, .int .u8 0, .int .u8 0, .int .u8 0, .int .u8 0, .int .u8 0, .int .u8 0, .int .i64 0, .int .i64 0, .int .i64 0, .int .i64 0] 27)) from below_more (below_more (Below.refl _ _) _) _)
        clear re rt
        generalize ((wr.alloc (.cells #[.int .u8 kd, .int .u8 tt, .int .i64 wh, .int .i64 wt] 56)).alloc (.cells #[.int .u8 0, .int .u8 0, .int .u8 0, .int .u8 0, .int .u8 0, .int .u8 0, .int .u8 0, .int .u8 0, .int .u8 0, .int .u8 0, .int .u8 0, .int .u8 0, .int .u8 0, .int .i64 0, .int .i64 0, .int .i64 0, .int .i64 0] 27)) = wB at *
        have hTl : wr.heap.size + 1 < wB.heap.size := row_lt RT.out
        have hN3 : N + wt ≤ 1000000000 := by omega
        have hN4 : 0 ≤ N + wt := by omega
        have tx : wr.cell? ⟨w.heap.size + 1 + 1, 1, none⟩ = some (.slice aoX s1.length cX) := (cell_of_row _ _ _ _ _ _ T.out.ro).trans rfl
        go_cut [12, 13] (fun t12 t13 wx => ∃ k2 ms2 er v2, t12 = v2 ∧ t13 = .int .i64 er ∧ (er = 0 → StepOk id other g h ka kb (k2, ms2, er)) ∧ (∀ m ∈ ms2, MsgOk m) ∧ ms2.length ≤ 2 ∧ wx.heap[wr.heap.size + 1]? = some (.cells k2.cells 27) ∧ Below wr.heap.size wr wx ∧ OutAt wx (wr.heap.size + 2) v2 ms2)
        case first =>
          have ce0 : wB.cell? ⟨wr.heap.size, 0, none⟩ = some (.int .u8 kd) := (cell_of_row _ _ _ _ _ _ RE.out).trans rfl
          have tb : wB.cell? ⟨w.heap.size + 1 + 1, 1, none⟩ = some (.slice aoX s1.length cX) := below_kept HBW.out tx
          have RP := Lib.hid (row_below HBW.out T.out.rp)
          by_cases hk0 : kd = 0
          · subst hk0
            obtain ⟨⟨k2, ms2, er⟩, hr⟩ : ∃ r : Res, pStart x (N + wt) = r := ⟨_, rfl⟩
            have hfine : Res.Fine (k2, ms2, er) := hr ▸ fine_start S.out.good.1 (N + wt)
            have hstep : er = 0 → StepOk id other g h ka kb (k2, ms2, er) := fun he => hr ▸ step_start S.out.A (N + wt) hN4 hN3 (by rw [hr]; exact he)
            have CON := Lib.hid (fun W => hr ▸ start_any x S.out.good.1 (N + wt) W)
            have HI2 := Lib.hid (link_info2 k2)
            have HF := Lib.hid hfine
            have HSP := Lib.hid hstep
            clear hr hfine hstep
            go_wp2_with ((with_reducible refine wpList_load_sub rfl 27 (.tmp 63) rfl w.heap.size 0 rfl x.cells _ (range_pair0 RP.out) Try.underlying27 rfl HIX.out ?_))
            refine (CON.out _).mono ?_
            rintro e w1 ⟨v2, rfl, hO, hb1⟩
            have RT1 := Lib.hid (row_below hb1 RT.out)
            go_wp2_with ((with_reducible refine wpList_store_rowTo rfl 27 (.tmp 11) (.tmp 67) rfl rfl (wr.heap.size + 1) k2.cells ?_ ?_ 27 (#[.int .u8 0, .int .u8 0, .int .u8 0, .int .u8 0, .int .u8 0, .int .u8 0, .int .u8 0, .int .u8 0, .int .u8 0, .int .u8 0, .int .u8 0, .int .u8 0, .int .u8 0, .int .i64 0, .int .i64 0, .int .i64 0, .int .i64 0]) RT1.out HI2.out rfl (one_cells _) ?_); (as_aux_lemma => kernel_rfl); (as_aux_lemma => kernel_rfl))
            go_meet
            case rel => exact ⟨k2, ms2, er, _, rfl, rfl, HSP.out, HF.out.2.1, HF.out.2.2, setRow_heap _ _ _ _ _ _ RT1.out, below_setRow' (HBW.out.trans (hb1.mono HBW.out.size)) (Nat.le_succ _) _, (hO.setRow _ hTl _).mono hTl⟩
          have hk0' : (kd == 0) = false := by simpa using hk0
          by_cases hk1 : kd = 1
          · subst hk1
            obtain ⟨⟨k2, ms2, er⟩, hr⟩ : ∃ r : Res, pClose x (N + wt) = r := ⟨_, rfl⟩
            have hfine : Res.Fine (k2, ms2, er) := hr ▸ fine_close S.out.good.1 (N + wt)
            have hstep : er = 0 → StepOk id other g h ka kb (k2, ms2, er) := fun he => hr ▸ step_close S.out.A (N + wt) hN4 hN3 (by rw [hr]; exact he)
            have CON := Lib.hid (fun W => hr ▸ close_any x S.out.good.1 (N + wt) W)
            have HI2 := Lib.hid (link_info2 k2)
            have HF := Lib.hid hfine
            have HSP := Lib.hid hstep
            clear hr hfine hstep
            go_wp2_with ((with_reducible refine wpList_load_sub rfl 27 (.tmp 76) rfl w.heap.size 0 rfl x.cells _ (range_pair0 RP.out) Try.underlying27 rfl HIX.out ?_))
            refine (CON.out _).mono ?_
            rintro e w1 ⟨v2, rfl, hO, hb1⟩
            have RT1 := Lib.hid (row_below hb1 RT.out)
            go_wp2_with ((with_reducible refine wpList_store_rowTo rfl 27 (.tmp 11) (.tmp 80) rfl rfl (wr.heap.size + 1) k2.cells ?_ ?_ 27 (#[.int .u8 0, .int .u8 0, .int .u8 0, .int .u8 0, .int .u8 0, .int .u8 0, .int .u8 0, .int .u8 0, .int .u8 0, .int .u8 0, .int .u8 0, .int .u8 0, .int .u8 0, .int .i64 0, .int .i64 0, .int .i64 0, .int .i64 0]) RT1.out HI2.out rfl (one_cells _) ?_); (as_aux_lemma => kernel_rfl); (as_aux_lemma => kernel_rfl))
            go_meet
            case rel => exact ⟨k2, ms2, er, _, rfl, rfl, HSP.out, HF.out.2.1, HF.out.2.2, setRow_heap _ _ _ _ _ _ RT1.out, below_setRow' (HBW.out.trans (hb1.mono HBW.out.size)) (Nat.le_succ _) _, (hO.setRow _ hTl _).mono hTl⟩
          have hk1' : (kd == 1) = false := by simpa using hk1
          by_cases hk2 : kd = 2
          · subst hk2
            obtain ⟨⟨k2, ms2, er⟩, hr⟩ : ∃ r : Res, pTick x (N + wt) = r := ⟨_, rfl⟩
            have hfine : Res.Fine (k2, ms2, er) := hr ▸ fine_tick S.out.good.1 (N + wt)
            have hstep : er = 0 → StepOk id other g h ka kb (k2, ms2, er) := fun he => hr ▸ step_tick S.out.A (N + wt) hN4 hN3
            have CON := Lib.hid (fun W => hr ▸ tick_any x S.out.good.1 (N + wt) W)
            have HI2 := Lib.hid (link_info2 k2)
            have HF := Lib.hid hfine
            have HSP := Lib.hid hstep
            clear hr hfine hstep
            go_wp2_with ((with_reducible refine wpList_load_sub rfl 27 (.tmp 97) rfl w.heap.size 0 rfl x.cells _ (range_pair0 RP.out) Try.underlying27 rfl HIX.out ?_))
            refine (CON.out _).mono ?_
            rintro e w1 ⟨v2, rfl, hO, hb1⟩
            have RT1 := Lib.hid (row_below hb1 RT.out)
            go_wp2_with ((with_reducible refine wpList_store_rowTo rfl 27 (.tmp 11) (.tmp 101) rfl rfl (wr.heap.size + 1) k2.cells ?_ ?_ 27 (#[.int .u8 0, .int .u8 0, .int .u8 0, .int .u8 0, .int .u8 0, .int .u8 0, .int .u8 0, .int .u8 0, .int .u8 0, .int .u8 0, .int .u8 0, .int .u8 0, .int .u8 0, .int .i64 0, .int .i64 0, .int .i64 0, .int .i64 0]) RT1.out HI2.out rfl (one_cells _) ?_); (as_aux_lemma => kernel_rfl); (as_aux_lemma => kernel_rfl))
            go_meet
            case rel => exact ⟨k2, ms2, er, _, rfl, rfl, HSP.out, HF.out.2.1, HF.out.2.2, setRow_heap _ _ _ _ _ _ RT1.out, below_setRow' (HBW.out.trans (hb1.mono HBW.out.size)) (Nat.le_succ _) _, (hO.setRow _ hTl _).mono hTl⟩
          have hk2' : (kd == 2) = false := by simpa using hk2
          by_cases hsz : s1.length = 0
          · have hsz' : ((s1.length : Int) == 0) = true := by simp [hsz]
            obtain ⟨⟨k2, ms2, er⟩, hr⟩ : ∃ r : Res, pTick x (N + wt) = r := ⟨_, rfl⟩
            have hfine : Res.Fine (k2, ms2, er) := hr ▸ fine_tick S.out.good.1 (N + wt)
            have hstep : er = 0 → StepOk id other g h ka kb (k2, ms2, er) := fun he => hr ▸ step_tick S.out.A (N + wt) hN4 hN3
            have CON := Lib.hid (fun W => hr ▸ tick_any x S.out.good.1 (N + wt) W)
            have HI2 := Lib.hid (link_info2 k2)
            have HF := Lib.hid hfine
            have HSP := Lib.hid hstep
            clear hr hfine hstep
            go_wp2_with ((with_reducible refine wpList_load_sub rfl 27 (.tmp 97) rfl w.heap.size 0 rfl x.cells _ (range_pair0 RP.out) Try.underlying27 rfl HIX.out ?_))
            refine (CON.out _).mono ?_
            rintro e w1 ⟨v2, rfl, hO, hb1⟩
            have RT1 := Lib.hid (row_below hb1 RT.out)
            go_wp2_with ((with_reducible refine wpList_store_rowTo rfl 27 (.tmp 11) (.tmp 101) rfl rfl (wr.heap.size + 1) k2.cells ?_ ?_ 27 (#[.int .u8 0, .int .u8 0, .int .u8 0, .int .u8 0, .int .u8 0, .int .u8 0, .int .u8 0, .int .u8 0, .int .u8 0, .int .u8 0, .int .u8 0, .int .u8 0, .int .u8 0, .int .i64 0, .int .i64 0, .int .i64 0, .int .i64 0]) RT1.out HI2.out rfl (one_cells _) ?_); (as_aux_lemma => kernel_rfl); (as_aux_lemma => kernel_rfl))
            go_meet
            case rel => exact ⟨k2, ms2, er, _, rfl, rfl, HSP.out, HF.out.2.1, HF.out.2.2, setRow_heap _ _ _ _ _ _ RT1.out, below_setRow' (HBW.out.trans (hb1.mono HBW.out.size)) (Nat.le_succ _) _, (hO.setRow _ hTl _).mono hTl⟩
          have hsz' : ((s1.length : Int) == 0) = false := by simpa using hsz
          obtain ⟨q, hq, hql⟩ := mod_nat (a := wh) (n := s1.length) gw2 (by omega)
          obtain ⟨gX, mv, m, rfl, hcX, hmv, hmA, hmm⟩ := out_cell T.out.l1 hql
          have HMI := Lib.hid (hmA.read ((S.out.mb m hmm).fine).2)
          obtain ⟨⟨k2, ms2, er⟩, hr⟩ : ∃ r : Res, pHandle x m (N + wt) = r := ⟨_, rfl⟩
          have hfine : Res.Fine (k2, ms2, er) := hr ▸ fine_handle S.out.good.1 m (N + wt)
          have hstep : er = 0 → StepOk id other g h ka kb (k2, ms2, er) := fun he => hr ▸ step_handle S.out.A S.out.B.kle (by omega) (by omega) (N + wt) hN4 hN3 m (S.out.mb m hmm) (by rw [hr]; exact he)
          have CON := Lib.hid (fun W => hr ▸ handle_any x S.out.good.1 (N + wt) mv m W)
          have HI2 := Lib.hid (link_info2 k2)
          have HF := Lib.hid hfine
          have HSP := Lib.hid hstep
          clear hr hfine hstep
          have hqt : wh.tmod (s1.length : Int) = (q : Int) := by rw [Int.tmod_eq_emod_of_nonneg gw2]; exact hq
          have hqi : (q : Int) < (s1.length : Int) := by omega
          have hqz : (0 : Int) ≤ (q : Int) := by omega
          have hsn : ¬ ((s1.length : Int) = 0) := by omega
          have hsp : (0 : Int) < (s1.length : Int) := by omega
          go_upto_region 13 with fail
          refine wp_region_held_drew (S := fun w' => Below wr.heap.size wr w' ∧ w'.heap[wr.heap.size]? = some (.cells #[.int .u8 kd, .int .u8 tt, .int .i64 wh, .int .i64 wt] 56)) (by kernel_rfl) (⟨HBW.out.drew, RE.out⟩) (fun hHeld => ?_)
          refine wpAnyH_take (i := 0) (v := .int .i64 0) rfl (by kernel_rfl) (by kernel_rfl) (by kernel_rfl) (fun _ _ _ h => h) (Or.inl ⟨by rfl, by intro w hSw; clear hHeld hSw; go_simp; (try rfl)⟩) (by assumption) ?_
          simp only [Act.put, List.setIfInBounds_toArray, List.set_cons_zero, List.set_cons_succ, List.getElem_toArray, List.getElem_cons_succ, List.getElem_cons_zero]
          refine wpAnyH_take (i := 1) (v := .pointer (some ⟨w.heap.size, 0, none⟩)) rfl (by kernel_rfl) (by kernel_rfl) (by kernel_rfl) (fun _ _ _ h => h) (Or.inl ⟨by rfl, by intro w hSw; clear hHeld hSw; go_simp; (try rfl)⟩) (by assumption) ?_
          simp only [Act.put, List.setIfInBounds_toArray, List.set_cons_zero, List.set_cons_succ, List.getElem_toArray, List.getElem_cons_succ, List.getElem_cons_zero]
          refine wpAnyH_take (i := 2) (v := .agg x.cells) rfl (by kernel_rfl) (by kernel_rfl) (by kernel_rfl) (fun _ _ _ h => h) (yields_sub (by rfl) 27 _ rfl (w.heap.size) 0 (by rfl) x.cells _ (fun w' h' => range_pair0 (row_below h'.1 T.out.rp)) Try.underlying27 rfl HIX.out) (by assumption) ?_
          simp only [Act.put, List.setIfInBounds_toArray, List.set_cons_zero, List.set_cons_succ, List.getElem_toArray, List.getElem_cons_succ, List.getElem_cons_zero]
          refine wpAnyH_take (i := 3) (v := .int .i64 0) rfl (by kernel_rfl) (by kernel_rfl) (by kernel_rfl) (fun _ _ _ h => h) (Or.inl ⟨by rfl, by intro w hSw; clear hHeld hSw; go_simp; (try rfl)⟩) (by assumption) ?_
          simp only [Act.put, List.setIfInBounds_toArray, List.set_cons_zero, List.set_cons_succ, List.getElem_toArray, List.getElem_cons_succ, List.getElem_cons_zero]
          refine wpAnyH_take (i := 4) (v := .int .i64 1) rfl (by kernel_rfl) (by kernel_rfl) (by kernel_rfl) (fun _ _ _ h => h) (Or.inl ⟨by rfl, by intro w hSw; clear hHeld hSw; go_simp; (try rfl)⟩) (by assumption) ?_
          simp only [Act.put, List.setIfInBounds_toArray, List.set_cons_zero, List.set_cons_succ, List.getElem_toArray, List.getElem_cons_succ, List.getElem_cons_zero]
          refine wpAnyH_take (i := 5) (v := .pointer (some ⟨w.heap.size + 1 + 1, 1, none⟩)) rfl (by kernel_rfl) (by kernel_rfl) (by kernel_rfl) (fun _ _ _ h => h) (Or.inl ⟨by rfl, by intro w hSw; clear hHeld hSw; go_simp; (try rfl)⟩) (by assumption) ?_
          simp only [Act.put, List.setIfInBounds_toArray, List.set_cons_zero, List.set_cons_succ, List.getElem_toArray, List.getElem_cons_succ, List.getElem_cons_zero]
          refine wpAnyH_take (i := 6) (v := .slice (some ⟨gX, 0, none⟩) s1.length cX) rfl (by kernel_rfl) (by kernel_rfl) (by kernel_rfl) (fun _ _ _ h => h) (Or.inl ⟨by rfl, by intro w hSw; have tq := below_kept hSw.1 tx; clear hHeld hSw; go_simp⟩) (by assumption) ?_
          simp only [Act.put, List.setIfInBounds_toArray, List.set_cons_zero, List.set_cons_succ, List.getElem_toArray, List.getElem_cons_succ, List.getElem_cons_zero]
          refine wpAnyH_take (i := 7) (v := .pointer (some ⟨wr.heap.size, 2, none⟩)) rfl (by kernel_rfl) (by kernel_rfl) (by kernel_rfl) (fun _ _ _ h => h) (Or.inl ⟨by rfl, by intro w hSw; clear hHeld hSw; go_simp; (try rfl)⟩) (by assumption) ?_
          simp only [Act.put, List.setIfInBounds_toArray, List.set_cons_zero, List.set_cons_succ, List.getElem_toArray, List.getElem_cons_succ, List.getElem_cons_zero]
          refine wpAnyH_take (i := 8) (v := .int .i64 wh) rfl (by kernel_rfl) (by kernel_rfl) (by kernel_rfl) (fun _ _ _ h => h) (Or.inl ⟨by rfl, by intro w hSw; have tq : w.cell? ⟨wr.heap.size, 2, none⟩ = some (.int .i64 wh) := (cell_of_row _ _ _ _ _ _ hSw.2).trans rfl; clear hHeld hSw; go_simp⟩) (by assumption) ?_
          simp only [Act.put, List.setIfInBounds_toArray, List.set_cons_zero, List.set_cons_succ, List.getElem_toArray, List.getElem_cons_succ, List.getElem_cons_zero]
          refine wpAnyH_take (i := 9) (v := .int .i64 0) rfl (by kernel_rfl) (by kernel_rfl) (by kernel_rfl) (fun _ _ _ h => h) (Or.inl ⟨by rfl, by intro w hSw; clear hHeld hSw; go_simp; (try rfl)⟩) (by assumption) ?_
          simp only [Act.put, List.setIfInBounds_toArray, List.set_cons_zero, List.set_cons_succ, List.getElem_toArray, List.getElem_cons_succ, List.getElem_cons_zero]
          refine wpAnyH_take (i := 10) (v := .int .i64 1) rfl (by kernel_rfl) (by kernel_rfl) (by kernel_rfl) (fun _ _ _ h => h) (Or.inl ⟨by rfl, by intro w hSw; clear hHeld hSw; go_simp; (try rfl)⟩) (by assumption) ?_
          simp only [Act.put, List.setIfInBounds_toArray, List.set_cons_zero, List.set_cons_succ, List.getElem_toArray, List.getElem_cons_succ, List.getElem_cons_zero]
          refine wpAnyH_take (i := 11) (v := .pointer (some ⟨w.heap.size + 1 + 1, 1, none⟩)) rfl (by kernel_rfl) (by kernel_rfl) (by kernel_rfl) (fun _ _ _ h => h) (Or.inl ⟨by rfl, by intro w hSw; clear hHeld hSw; go_simp; (try rfl)⟩) (by assumption) ?_
          simp only [Act.put, List.setIfInBounds_toArray, List.set_cons_zero, List.set_cons_succ, List.getElem_toArray, List.getElem_cons_succ, List.getElem_cons_zero]
          refine wpAnyH_take (i := 12) (v := .slice (some ⟨gX, 0, none⟩) s1.length cX) rfl (by kernel_rfl) (by kernel_rfl) (by kernel_rfl) (fun _ _ _ h => h) (Or.inl ⟨by rfl, by intro w hSw; have tq := below_kept hSw.1 tx; clear hHeld hSw; go_simp⟩) (by assumption) ?_
          simp only [Act.put, List.setIfInBounds_toArray, List.set_cons_zero, List.set_cons_succ, List.getElem_toArray, List.getElem_cons_succ, List.getElem_cons_zero]
          refine wpAnyH_take (i := 13) (v := .int .i64 s1.length) rfl (by kernel_rfl) (by kernel_rfl) (by kernel_rfl) (fun _ _ _ h => h) (Or.inl ⟨by rfl, by intro w hSw; clear hHeld hSw; go_simp; (try rfl)⟩) (by assumption) ?_
          simp only [Act.put, List.setIfInBounds_toArray, List.set_cons_zero, List.set_cons_succ, List.getElem_toArray, List.getElem_cons_succ, List.getElem_cons_zero]
          refine wpAnyH_take (i := 14) (v := .int .i64 q) rfl (by kernel_rfl) (by kernel_rfl) (by kernel_rfl) (fun _ _ _ h => h) (Or.inl ⟨by rfl, by intro w hSw; clear hHeld hSw; go_simp; (try exact hqt)⟩) (by assumption) ?_
          simp only [Act.put, List.setIfInBounds_toArray, List.set_cons_zero, List.set_cons_succ, List.getElem_toArray, List.getElem_cons_succ, List.getElem_cons_zero]
          refine wpAnyH_take (i := 15) (v := .pointer (some ⟨gX, q, none⟩)) rfl (by kernel_rfl) (by kernel_rfl) (by kernel_rfl) (fun _ _ _ h => h) (Or.inl ⟨by rfl, by intro w hSw; clear hHeld hSw; go_simp; (try rfl)⟩) (by assumption) ?_
          simp only [Act.put, List.setIfInBounds_toArray, List.set_cons_zero, List.set_cons_succ, List.getElem_toArray, List.getElem_cons_succ, List.getElem_cons_zero]
          refine wpAnyH_take (i := 16) (v := mv) rfl (by kernel_rfl) (by kernel_rfl) (by kernel_rfl) (fun _ _ _ h => h) (Or.inl ⟨by rfl, by intro w hSw; have tq := below_kept hSw.1 hmv; clear hHeld hSw; go_simp⟩) (by assumption) ?_
          simp only [Act.put, List.setIfInBounds_toArray, List.set_cons_zero, List.set_cons_succ, List.getElem_toArray, List.getElem_cons_succ, List.getElem_cons_zero]
          refine wpAnyH_take (i := 17) (v := .int .i64 (N + wt)) rfl (by kernel_rfl) (by kernel_rfl) (by kernel_rfl) (fun _ _ _ h => h) (Or.inl ⟨by rfl, by intro w hSw; clear hHeld hSw; go_simp; (try rfl)⟩) (by assumption) ?_
          simp only [Act.put, List.setIfInBounds_toArray, List.set_cons_zero, List.set_cons_succ, List.getElem_toArray, List.getElem_cons_succ, List.getElem_cons_zero]
          refine wpAnyH_ready (rs := [18]) (by kernel_rfl) (by simp) ?_
          refine AllReadyH.cons (i := 18) (rs := []) rfl ?_ AllReadyH.nil
          intro Kq hKq
          simp only [List.getElem_toArray, List.getElem_cons_succ, List.getElem_cons_zero]
          rw [if_pos (by rfl)]
          refine wp_call_fn 20 #[.agg x.cells, mv, .int .i64 (N + wt)] (_) (by as_aux_lemma => kernel_rfl) (CON.out _ (HMI.out.below HBW.out.drew)) ?_
          rintro e w1 ⟨v2, rfl, hO, hb1⟩
          refine ⟨.tuple #[.agg k2.cells, v2, .int .i64 er], rfl, ?_⟩
          have HB1 := Lib.hid (show Below wr.heap.size wr w1 from HBW.out.drew.trans (hb1.mono HBW.out.size))
          have RT1 := Lib.hid (show w1.heap[wr.heap.size + 1]? = some (.cells #[.int .u8 0, .int .u8 0, .int .u8 0, .int .u8 0, .int .u8 0, .int .u8 0, .int .u8 0, .int .u8 0, .int .u8 0, .int .u8 0, .int .u8 0, .int .u8 0, .int .u8 0, .int .i64 0, .int .i64 0, .int .i64 0, .int .i64 0] 27) from row_below hb1 RT.out)
          have RE1 := Lib.hid (show w1.heap[wr.heap.size]? = some (.cells #[.int .u8 kd, .int .u8 tt, .int .i64 wh, .int .i64 wt] 56) from row_below hb1 RE.out)
          refine hKq.out _ _ (⟨HB1.out, RE1.out⟩) (fun hHeld2 => ?_)
          clear hKq Kq hHeld
          have hHeld := hHeld2
          clear hHeld2
          simp only [Act.put, List.setIfInBounds_toArray, List.set_cons_zero, List.set_cons_succ]
          refine wpAnyH_take (i := 19) (v := .tuple #[.agg k2.cells, v2, .int .i64 er]) rfl (by kernel_rfl) (by kernel_rfl) (by kernel_rfl) (fun _ _ _ h => h) (Or.inl ⟨by rfl, by intro w hSw; clear hHeld hSw; go_simp; (try rfl)⟩) (by assumption) ?_
          simp only [Act.put, List.setIfInBounds_toArray, List.set_cons_zero, List.set_cons_succ, List.getElem_toArray, List.getElem_cons_succ, List.getElem_cons_zero]
          refine wpAnyH_take (i := 20) (v := .agg k2.cells) rfl (by kernel_rfl) (by kernel_rfl) (by kernel_rfl) (fun _ _ _ h => h) (Or.inl ⟨by rfl, by intro w hSw; clear hHeld hSw; go_simp; (try rfl)⟩) (by assumption) ?_
          simp only [Act.put, List.setIfInBounds_toArray, List.set_cons_zero, List.set_cons_succ, List.getElem_toArray, List.getElem_cons_succ, List.getElem_cons_zero]
          refine wpAnyH_take (i := 21) (v := v2) rfl (by kernel_rfl) (by kernel_rfl) (by kernel_rfl) (fun _ _ _ h => h) (Or.inl ⟨by rfl, by intro w hSw; clear hHeld hSw; go_simp; (try rfl)⟩) (by assumption) ?_
          simp only [Act.put, List.setIfInBounds_toArray, List.set_cons_zero, List.set_cons_succ, List.getElem_toArray, List.getElem_cons_succ, List.getElem_cons_zero]
          refine wpAnyH_take (i := 22) (v := .int .i64 er) rfl (by kernel_rfl) (by kernel_rfl) (by kernel_rfl) (fun _ _ _ h => h) (Or.inl ⟨by rfl, by intro w hSw; clear hHeld hSw; go_simp; (try rfl)⟩) (by assumption) ?_
          simp only [Act.put, List.setIfInBounds_toArray, List.set_cons_zero, List.set_cons_succ, List.getElem_toArray, List.getElem_cons_succ, List.getElem_cons_zero]
          refine wpAnyH_ready (rs := [23]) (by kernel_rfl) (by simp) ?_
          refine AllReadyH.cons (i := 23) (rs := []) rfl ?_ AllReadyH.nil
          intro Kq hKq
          simp only [List.getElem_toArray, List.getElem_cons_succ, List.getElem_cons_zero]
          rw [if_pos (by rfl)]
          refine wp_store_row 27 (.tmp 11) (.tmp 54) (by rfl) (wr.heap.size + 1) k2.cells (by as_aux_lemma => kernel_rfl) (by as_aux_lemma => kernel_rfl) 27 #[.int .u8 0, .int .u8 0, .int .u8 0, .int .u8 0, .int .u8 0, .int .u8 0, .int .u8 0, .int .u8 0, .int .u8 0, .int .u8 0, .int .u8 0, .int .u8 0, .int .u8 0, .int .i64 0, .int .i64 0, .int .i64 0, .int .i64 0] RT1.out HI2.out (by as_aux_lemma => kernel_rfl) (one_cells _) ?_
          refine hKq.out _ _ (⟨below_setRow' HB1.out (Nat.le_succ _) _, (setRow_other _ _ _ _ (Nat.ne_of_lt (Nat.lt_succ_self _))).trans RE1.out⟩) (fun hHeld2 => ?_)
          clear hKq Kq hHeld
          have hHeld := hHeld2
          clear hHeld2
          simp only [Act.put, List.setIfInBounds_toArray, List.set_cons_zero, List.set_cons_succ]
          refine wpAnyH_take (i := 24) (v := v2) rfl (by kernel_rfl) (by kernel_rfl) (by kernel_rfl) (fun _ _ _ h => h) (Or.inl ⟨by rfl, by intro w hSw; clear hHeld hSw; go_simp; (try rfl)⟩) (by assumption) ?_
          simp only [Act.put, List.setIfInBounds_toArray, List.set_cons_zero, List.set_cons_succ, List.getElem_toArray, List.getElem_cons_succ, List.getElem_cons_zero]
          refine wpAnyH_take (i := 25) (v := .int .i64 er) rfl (by kernel_rfl) (by kernel_rfl) (by kernel_rfl) (fun _ _ _ h => h) (Or.inl ⟨by rfl, by intro w hSw; clear hHeld hSw; go_simp; (try rfl)⟩) (by assumption) ?_
          simp only [Act.put, List.setIfInBounds_toArray, List.set_cons_zero, List.set_cons_succ, List.getElem_toArray, List.getElem_cons_succ, List.getElem_cons_zero]
          clear hHeld
          refine wpAnyH_done (by kernel_rfl) ?_ _
          go_wp2_with fail
          go_meet
          case rel => exact ⟨k2, ms2, er, _, rfl, rfl, HSP.out, HF.out.2.1, HF.out.2.2, setRow_heap _ _ _ _ _ _ RT1.out, below_setRow' HB1.out (Nat.le_succ _) _, (hO.setRow _ hTl _).mono hTl⟩
        case rest =>
          obtain ⟨k2, ms2, er, v2, rfl, rfl, hstep, hf2, hf3, rT, hbx, lx⟩ := hcut
          have TC := Lib.hid (T.out.step hbx)
          have CT := Lib.hid rT
          have LX := Lib.hid lx
          have hz1 : w.heap.size + 1 + 1 < wr.heap.size := row_lt T.out.ro
          have HI2 := Lib.hid (link_info2 k2)
          clear rT lx RE RT HBW T tx hTl
          by_cases he : er = 0
          · subst he
            obtain ⟨g', ka', hg', hS'⟩ := Sys.step S.out (hstep rfl)
            have S2 := Lib.hid hS'
            clear hS' hstep S
            have HTH := Lib.hid (show wc.there w.heap.size 0 k2.cells.size from there_of_row TC.out.rp 0 17 (by rw [pair_size]; decide))
            go_upto_region 22 with (first
              | (with_reducible refine wpList_load_row rfl 27 (.tmp 11) rfl (wr.heap.size + 1) rfl 27 k2.cells (0, 0) _ CT.out Try.underlying27 rfl HI2.out ?_)
              | ((with_reducible refine wpList_store_midTo rfl rfl 27 (.tmp 108) (.tmp 107) rfl w.heap.size 0 k2.cells ?_ ?_ HTH.out HI2.out (one_cells _) ?_); (as_aux_lemma => kernel_rfl); (as_aux_lemma => kernel_rfl)))
            have TD := Lib.hid (TC.out.link0 k2)
            have LY := Lib.hid (show OutAt (wc.setCells w.heap.size 0 k2.cells.toList) (w.heap.size + 3) u12 ms2 from (LX.out.kept (fun b hb _ => heap_setCells_far _ _ _ _ _ (by omega))).mono (by omega))
            clear TC CT LX HTH hbx
            generalize wc.setCells w.heap.size 0 k2.cells.toList = wd at *
            obtain ⟨xsO, hoO, hxO⟩ := TD.out.l0
            obtain ⟨nws, hrd, hnx⟩ := LY.out.reads
            have HOO := Lib.hid hoO
            have HXO := Lib.hid hxO
            have HRD := Lib.hid hrd
            have HNX := Lib.hid hnx
            have hxl : xsO.length = s0.length := by have := hoO.1; omega
            clear hoO hxO hrd hnx LY
            have q0 : wd.cell? ⟨w.heap.size + 1 + 1, 0, none⟩ = some v0 := (cell_of_row _ _ _ _ _ _ TD.out.ro).trans rfl
            have q1 : wd.cell? ⟨w.heap.size + 1 + 1, 1, none⟩ = some (.slice aoX s1.length cX) := (cell_of_row _ _ _ _ _ _ TD.out.ro).trans rfl
            have hz2 : w.heap.size + 1 + 1 < wd.heap.size := row_lt TD.out.ro
            have HBK := Lib.hid (fun g e => (TD.out.l0.block g e).2.1)
            go_upto_region 23 with (refine wpList_append_list rfl (some 114) rfl (.tmp 112) (.tmp 113) rfl (w.heap.size + 3) v0 s0.length xsO rfl HOO.out u12 ms2.length nws rfl HRD.out (by omega) (by omega) ?_; intro v5 w5 ho5 hg5 ha5; obtain ⟨ao5, n5, c5, e5⟩ := row_slice ho5; subst e5; have r5 := (hg5.block (w.heap.size + 1 + 1) hz2 (fun e => by have := HBK.out _ e.symm; omega)).trans TD.out.ro; have q5 : w5.cell? ⟨w.heap.size + 1 + 1, 0, none⟩ = some v0 := (cell_of_row _ _ _ _ _ _ r5).trans rfl; have f5 : ∀ o, w5.frozen? ⟨w.heap.size + 1 + 1, o, none⟩ = false := fun o => frozen_of_row _ _ _ _ _ r5; have TE := Lib.hid (TD.out.sent0 hxl HXO.out HNX.out ho5 hg5 ha5); clear ho5 hg5 ha5 r5)
            clear TD HOO HXO HRD HNX q0 q1 hz2 HBK f5 q5
            generalize w5.setCell ⟨w.heap.size + 1 + 1, 0, none⟩ (.slice ao5 n5 c5) = wE at *
            obtain ⟨xsA, hoA, hxA⟩ := TE.out.all
            have HOA := Lib.hid hoA
            have HXA := Lib.hid hxA
            clear hoA hxA
            have hz9 : w.heap.size + 1 + 1 < wE.heap.size := row_lt TE.out.ro
            have HIPP := Lib.hid (pair_info k2 y)
            have hk9 : k + 1 ≤ 1000 := by omega
            have hb9 : w.heap.size + 1 ≤ wE.heap.size := by omega
            go_upto_region 6 with (first
              | (with_reducible refine wpList_load_row rfl 28 (.tmp 2) rfl w.heap.size rfl 28 (pairCells k2 y) (0, 0) _ TE.out.rp Try.underlying28 rfl HIPP.out ?_)
              | (with_reducible refine wpList_runTo rfl (some 118) rfl (.slice (some ⟨wE.heap.size, 0, none⟩) 1 1) (wE.alloc (.cells (pairCells k2 y) 28)) (by as_aux_lemma => kernel_rfl) ?_; simp only [Act.put, List.setIfInBounds_toArray, List.set_cons_succ, List.set_cons_zero])
              | (refine wpList_append_all rfl (some 119) rfl (.tmp 116) (.tmp 118) rfl (w.heap.size + 1) u5 (k + 1) xsA rfl (HOA.out.alloc _) wE.heap.size rfl k2 y (heap_alloc_new _ _) hk9 (Nat.le_trans hb9 (Nat.le_of_lt (lt_alloc _ _))) ?_; intro v7 w7 ho7 hg7; have TF := Lib.hid (TE.out.more S2.out.good HXA.out HOA.out ho7 hg7); clear ho7 hg7))
            go_wp2_with fail
            go_roundg (n - (k + 1))
            case measure => omega
            case rel => exact ⟨k + 1, N + wt, by omega, rfl, rfl, rfl, k2, y, g', h, ka', kb, s0 ++ ms2, s1, (.slice ao5 n5 c5), (.slice aoX s1.length cX), S2.out, by omega, by omega, by rw [List.length_append]; omega, by omega, by omega, TF.out⟩
          · have hez : (er == 0) = false := by simpa using he
            go_upto_region 23 with fail
            obtain ⟨xsA, hoA, hxA⟩ := TC.out.all
            have HOA := Lib.hid hoA
            have HXA := Lib.hid hxA
            clear hoA hxA
            have hz9 : w.heap.size + 1 + 1 < wc.heap.size := row_lt TC.out.ro
            have HIPP := Lib.hid (pair_info x y)
            have hk9 : k + 1 ≤ 1000 := by omega
            have hb9 : w.heap.size + 1 ≤ wc.heap.size := by omega
            go_upto_region 6 with (first
              | (with_reducible refine wpList_load_row rfl 28 (.tmp 2) rfl w.heap.size rfl 28 (pairCells x y) (0, 0) _ TC.out.rp Try.underlying28 rfl HIPP.out ?_)
              | (with_reducible refine wpList_runTo rfl (some 118) rfl (.slice (some ⟨wc.heap.size, 0, none⟩) 1 1) (wc.alloc (.cells (pairCells x y) 28)) (by as_aux_lemma => kernel_rfl) ?_; simp only [Act.put, List.setIfInBounds_toArray, List.set_cons_succ, List.set_cons_zero])
              | (refine wpList_append_all rfl (some 119) rfl (.tmp 116) (.tmp 118) rfl (w.heap.size + 1) u5 (k + 1) xsA rfl (HOA.out.alloc _) wc.heap.size rfl x y (heap_alloc_new _ _) hk9 (Nat.le_trans hb9 (Nat.le_of_lt (lt_alloc _ _))) ?_; intro v7 w7 ho7 hg7; have TF := Lib.hid (TC.out.more S.out.good HXA.out HOA.out ho7 hg7); clear ho7 hg7))
            go_wp2_with fail
            go_roundg (n - (k + 1))
            case measure => omega
            case rel => exact ⟨k + 1, N + wt, by omega, rfl, rfl, rfl, x, y, g, h, ka, kb, s0, s1, v0, (.slice aoX s1.length cX), S.out, by omega, by omega, by omega, by omega, by omega, TF.out⟩
      · go_upto_block 2 with fail
        obtain ⟨aoX, cX, eX⟩ := out_form T.out.l0
        subst eX
        have HIX := Lib.hid (link_info2 y)
        obtain ⟨re, rt⟩ := fr_rows2 wr (.cells #[.int .u8 kd, .int .u8 tt, .int .i64 wh, .int .i64 wt] 56) (.cells #[.int .u8 0, .int .u8 0, .int .u8 0, .int .u8 0, .int .u8 0, .int .u8 0, .int .u8 0, .int .u8 0, .int .u8 0, .int .u8 0, .int .u8 0, .int .u8 0, .int .u8 0, .int .i64 0, .int .i64 0, .int .i64 0, .int .i64 0] 27)
        have RE := Lib.hid re
        have RT := Lib.hid rt
        have HBW := Lib.hid (show Below wr.heap.size wr ((wr.alloc (.cells #[.int .u8 kd, .int .u8 tt, .int .i64 wh, .int .i64 wt] 56)).alloc (.cells #[.int .u8 0, .int .u8 0, .int .u8 0, .int .u8 0, .int .u8 0, .int .u8 0, .int .u8 0, .int .u8 0, .int .u8 0, .int .u8 0, .int .u8 0, .int .u8 0, .int .u8 0, .int .i64 0, .int .i64 0, .int .i64 0, .int .i64 0] 27)) from below_more (below_more (Below.refl _ _) _) _)
        clear re rt
        generalize ((wr.alloc (.cells #[.int .u8 kd, .int .u8 tt, .int .i64 wh, .int .i64 wt] 56)).alloc (.cells #[.int .u8 0, .int .u8 0, .int .u8 0, .int .u8 0, .int .u8 0, .int .u8 0, .int .u8 0, .int .u8 0, .int .u8 0, .int .u8 0, .int .u8 0, .int .u8 0, .int .u8 0, .int .i64 0, .int .i64 0, .int .i64 0, .int .i64 0] 27)) = wB at *
        have hTl : wr.heap.size + 1 < wB.heap.size := row_lt RT.out
        have hN3 : N + wt ≤ 1000000000 := by omega
        have hN4 : 0 ≤ N + wt := by omega
        have tx : wr.cell? ⟨w.heap.size + 1 + 1, 0, none⟩ = some (.slice aoX s0.length cX) := (cell_of_row _ _ _ _ _ _ T.out.ro).trans rfl
        go_cut [12, 13] (fun t12 t13 wx => ∃ k2 ms2 er v2, t12 = v2 ∧ t13 = .int .i64 er ∧ (er = 0 → StepOk other id h g kb ka (k2, ms2, er)) ∧ (∀ m ∈ ms2, MsgOk m) ∧ ms2.length ≤ 2 ∧ wx.heap[wr.heap.size + 1]? = some (.cells k2.cells 27) ∧ Below wr.heap.size wr wx ∧ OutAt wx (wr.heap.size + 2) v2 ms2)
        case first =>
          have ce0 : wB.cell? ⟨wr.heap.size, 0, none⟩ = some (.int .u8 kd) := (cell_of_row _ _ _ _ _ _ RE.out).trans rfl
          have tb : wB.cell? ⟨w.heap.size + 1 + 1, 0, none⟩ = some (.slice aoX s0.length cX) := below_kept HBW.out tx
          have RP := Lib.hid (row_below HBW.out T.out.rp)
          by_cases hk0 : kd = 0
          · subst hk0
            obtain ⟨⟨k2, ms2, er⟩, hr⟩ : ∃ r : Res, pStart y (N + wt) = r := ⟨_, rfl⟩
            have hfine : Res.Fine (k2, ms2, er) := hr ▸ fine_start S.out.good.2.1 (N + wt)
            have hstep : er = 0 → StepOk other id h g kb ka (k2, ms2, er) := fun he => hr ▸ step_start S.out.B (N + wt) hN4 hN3 (by rw [hr]; exact he)
            have CON := Lib.hid (fun W => hr ▸ start_any y S.out.good.2.1 (N + wt) W)
            have HI2 := Lib.hid (link_info2 k2)
            have HF := Lib.hid hfine
            have HSP := Lib.hid hstep
            clear hr hfine hstep
            go_wp2_with ((with_reducible refine wpList_load_sub rfl 27 (.tmp 63) rfl w.heap.size 17 rfl y.cells _ (range_pair1 RP.out) Try.underlying27 rfl HIX.out ?_))
            refine (CON.out _).mono ?_
            rintro e w1 ⟨v2, rfl, hO, hb1⟩
            have RT1 := Lib.hid (row_below hb1 RT.out)
            go_wp2_with ((with_reducible refine wpList_store_rowTo rfl 27 (.tmp 11) (.tmp 67) rfl rfl (wr.heap.size + 1) k2.cells ?_ ?_ 27 (#[.int .u8 0, .int .u8 0, .int .u8 0, .int .u8 0, .int .u8 0, .int .u8 0, .int .u8 0, .int .u8 0, .int .u8 0, .int .u8 0, .int .u8 0, .int .u8 0, .int .u8 0, .int .i64 0, .int .i64 0, .int .i64 0, .int .i64 0]) RT1.out HI2.out rfl (one_cells _) ?_); (as_aux_lemma => kernel_rfl); (as_aux_lemma => kernel_rfl))
            go_meet
            case rel => exact ⟨k2, ms2, er, _, rfl, rfl, HSP.out, HF.out.2.1, HF.out.2.2, setRow_heap _ _ _ _ _ _ RT1.out, below_setRow' (HBW.out.trans (hb1.mono HBW.out.size)) (Nat.le_succ _) _, (hO.setRow _ hTl _).mono hTl⟩
          have hk0' : (kd == 0) = false := by simpa using hk0
          by_cases hk1 : kd = 1
          · subst hk1
            obtain ⟨⟨k2, ms2, er⟩, hr⟩ : ∃ r : Res, pClose y (N + wt) = r := ⟨_, rfl⟩
            have hfine : Res.Fine (k2, ms2, er) := hr ▸ fine_close S.out.good.2.1 (N + wt)
            have hstep : er = 0 → StepOk other id h g kb ka (k2, ms2, er) := fun he => hr ▸ step_close S.out.B (N + wt) hN4 hN3 (by rw [hr]; exact he)
            have CON := Lib.hid (fun W => hr ▸ close_any y S.out.good.2.1 (N + wt) W)
            have HI2 := Lib.hid (link_info2 k2)
            have HF := Lib.hid hfine
            have HSP := Lib.hid hstep
            clear hr hfine hstep
            go_wp2_with ((with_reducible refine wpList_load_sub rfl 27 (.tmp 76) rfl w.heap.size 17 rfl y.cells _ (range_pair1 RP.out) Try.underlying27 rfl HIX.out ?_))
            refine (CON.out _).mono ?_
            rintro e w1 ⟨v2, rfl, hO, hb1⟩
            have RT1 := Lib.hid (row_below hb1 RT.out)
            go_wp2_with ((with_reducible refine wpList_store_rowTo rfl 27 (.tmp 11) (.tmp 80) rfl rfl (wr.heap.size + 1) k2.cells ?_ ?_ 27 (#[.int .u8 0, .int .u8 0, .int .u8 0, .int .u8 0, .int .u8 0, .int .u8 0, .int .u8 0, .int .u8 0, .int .u8 0, .int .u8 0, .int .u8 0, .int .u8 0, .int .u8 0, .int .i64 0, .int .i64 0, .int .i64 0, .int .i64 0]) RT1.out HI2.out rfl (one_cells _) ?_); (as_aux_lemma => kernel_rfl); (as_aux_lemma => kernel_rfl))
            go_meet
            case rel => exact ⟨k2, ms2, er, _, rfl, rfl, HSP.out, HF.out.2.1, HF.out.2.2, setRow_heap _ _ _ _ _ _ RT1.out, below_setRow' (HBW.out.trans (hb1.mono HBW.out.size)) (Nat.le_succ _) _, (hO.setRow _ hTl _).mono hTl⟩
          have hk1' : (kd == 1) = false := by simpa using hk1
          by_cases hk2 : kd = 2
          · subst hk2
            obtain ⟨⟨k2, ms2, er⟩, hr⟩ : ∃ r : Res, pTick y (N + wt) = r := ⟨_, rfl⟩
            have hfine : Res.Fine (k2, ms2, er) := hr ▸ fine_tick S.out.good.2.1 (N + wt)
            have hstep : er = 0 → StepOk other id h g kb ka (k2, ms2, er) := fun he => hr ▸ step_tick S.out.B (N + wt) hN4 hN3
            have CON := Lib.hid (fun W => hr ▸ tick_any y S.out.good.2.1 (N + wt) W)
            have HI2 := Lib.hid (link_info2 k2)
            have HF := Lib.hid hfine
            have HSP := Lib.hid hstep
            clear hr hfine hstep
            go_wp2_with ((with_reducible refine wpList_load_sub rfl 27 (.tmp 97) rfl w.heap.size 17 rfl y.cells _ (range_pair1 RP.out) Try.underlying27 rfl HIX.out ?_))
            refine (CON.out _).mono ?_
            rintro e w1 ⟨v2, rfl, hO, hb1⟩
            have RT1 := Lib.hid (row_below hb1 RT.out)
            go_wp2_with ((with_reducible refine wpList_store_rowTo rfl 27 (.tmp 11) (.tmp 101) rfl rfl (wr.heap.size + 1) k2.cells ?_ ?_ 27 (#[.int .u8 0, .int .u8 0, .int .u8 0, .int .u8 0, .int .u8 0, .int .u8 0, .int .u8 0, .int .u8 0, .int .u8 0, .int .u8 0, .int .u8 0, .int .u8 0, .int .u8 0, .int .i64 0, .int .i64 0, .int .i64 0, .int .i64 0]) RT1.out HI2.out rfl (one_cells _) ?_); (as_aux_lemma => kernel_rfl); (as_aux_lemma => kernel_rfl))
            go_meet
            case rel => exact ⟨k2, ms2, er, _, rfl, rfl, HSP.out, HF.out.2.1, HF.out.2.2, setRow_heap _ _ _ _ _ _ RT1.out, below_setRow' (HBW.out.trans (hb1.mono HBW.out.size)) (Nat.le_succ _) _, (hO.setRow _ hTl _).mono hTl⟩
          have hk2' : (kd == 2) = false := by simpa using hk2
          by_cases hsz : s0.length = 0
          · have hsz' : ((s0.length : Int) == 0) = true := by simp [hsz]
            obtain ⟨⟨k2, ms2, er⟩, hr⟩ : ∃ r : Res, pTick y (N + wt) = r := ⟨_, rfl⟩
            have hfine : Res.Fine (k2, ms2, er) := hr ▸ fine_tick S.out.good.2.1 (N + wt)
            have hstep : er = 0 → StepOk other id h g kb ka (k2, ms2, er) := fun he => hr ▸ step_tick S.out.B (N + wt) hN4 hN3
            have CON := Lib.hid (fun W => hr ▸ tick_any y S.out.good.2.1 (N + wt) W)
            have HI2 := Lib.hid (link_info2 k2)
            have HF := Lib.hid hfine
            have HSP := Lib.hid hstep
            clear hr hfine hstep
            go_wp2_with ((with_reducible refine wpList_load_sub rfl 27 (.tmp 97) rfl w.heap.size 17 rfl y.cells _ (range_pair1 RP.out) Try.underlying27 rfl HIX.out ?_))
            refine (CON.out _).mono ?_
            rintro e w1 ⟨v2, rfl, hO, hb1⟩
            have RT1 := Lib.hid (row_below hb1 RT.out)
            go_wp2_with ((with_reducible refine wpList_store_rowTo rfl 27 (.tmp 11) (.tmp 101) rfl rfl (wr.heap.size + 1) k2.cells ?_ ?_ 27 (#[.int .u8 0, .int .u8 0, .int .u8 0, .int .u8 0, .int .u8 0, .int .u8 0, .int .u8 0, .int .u8 0, .int .u8 0, .int .u8 0, .int .u8 0, .int .u8 0, .int .u8 0, .int .i64 0, .int .i64 0, .int .i64 0, .int .i64 0]) RT1.out HI2.out rfl (one_cells _) ?_); (as_aux_lemma => kernel_rfl); (as_aux_lemma => kernel_rfl))
            go_meet
            case rel => exact ⟨k2, ms2, er, _, rfl, rfl, HSP.out, HF.out.2.1, HF.out.2.2, setRow_heap _ _ _ _ _ _ RT1.out, below_setRow' (HBW.out.trans (hb1.mono HBW.out.size)) (Nat.le_succ _) _, (hO.setRow _ hTl _).mono hTl⟩
          have hsz' : ((s0.length : Int) == 0) = false := by simpa using hsz
          obtain ⟨q, hq, hql⟩ := mod_nat (a := wh) (n := s0.length) gw2 (by omega)
          obtain ⟨gX, mv, m, rfl, hcX, hmv, hmA, hmm⟩ := out_cell T.out.l0 hql
          have HMI := Lib.hid (hmA.read ((S.out.ma m hmm).fine).2)
          obtain ⟨⟨k2, ms2, er⟩, hr⟩ : ∃ r : Res, pHandle y m (N + wt) = r := ⟨_, rfl⟩
          have hfine : Res.Fine (k2, ms2, er) := hr ▸ fine_handle S.out.good.2.1 m (N + wt)
          have hstep : er = 0 → StepOk other id h g kb ka (k2, ms2, er) := fun he => hr ▸ step_handle S.out.B S.out.A.kle (by omega) (by omega) (N + wt) hN4 hN3 m (S.out.ma m hmm) (by rw [hr]; exact he)
          have CON := Lib.hid (fun W => hr ▸ handle_any y S.out.good.2.1 (N + wt) mv m W)
          have HI2 := Lib.hid (link_info2 k2)
          have HF := Lib.hid hfine
          have HSP := Lib.hid hstep
          clear hr hfine hstep
          have hqt : wh.tmod (s0.length : Int) = (q : Int) := by rw [Int.tmod_eq_emod_of_nonneg gw2]; exact hq
          have hqi : (q : Int) < (s0.length : Int) := by omega
          have hqz : (0 : Int) ≤ (q : Int) := by omega
          have hsn : ¬ ((s0.length : Int) = 0) := by omega
          have hsp : (0 : Int) < (s0.length : Int) := by omega
          go_upto_region 13 with fail
          refine wp_region_held_drew (S := fun w' => Below wr.heap.size wr w' ∧ w'.heap[wr.heap.size]? = some (.cells #[.int .u8 kd, .int .u8 tt, .int .i64 wh, .int .i64 wt] 56)) (by kernel_rfl) (⟨HBW.out.drew, RE.out⟩) (fun hHeld => ?_)
          refine wpAnyH_take (i := 0) (v := .int .i64 1) rfl (by kernel_rfl) (by kernel_rfl) (by kernel_rfl) (fun _ _ _ h => h) (Or.inl ⟨by rfl, by intro w hSw; clear hHeld hSw; go_simp; (try rfl)⟩) (by assumption) ?_
          simp only [Act.put, List.setIfInBounds_toArray, List.set_cons_zero, List.set_cons_succ, List.getElem_toArray, List.getElem_cons_succ, List.getElem_cons_zero]
          refine wpAnyH_take (i := 1) (v := .pointer (some ⟨w.heap.size, 17, none⟩)) rfl (by kernel_rfl) (by kernel_rfl) (by kernel_rfl) (fun _ _ _ h => h) (Or.inl ⟨by rfl, by intro w hSw; clear hHeld hSw; go_simp; (try rfl)⟩) (by assumption) ?_
          simp only [Act.put, List.setIfInBounds_toArray, List.set_cons_zero, List.set_cons_succ, List.getElem_toArray, List.getElem_cons_succ, List.getElem_cons_zero]
          refine wpAnyH_take (i := 2) (v := .agg y.cells) rfl (by kernel_rfl) (by kernel_rfl) (by kernel_rfl) (fun _ _ _ h => h) (yields_sub (by rfl) 27 _ rfl (w.heap.size) 17 (by rfl) y.cells _ (fun w' h' => range_pair1 (row_below h'.1 T.out.rp)) Try.underlying27 rfl HIX.out) (by assumption) ?_
          simp only [Act.put, List.setIfInBounds_toArray, List.set_cons_zero, List.set_cons_succ, List.getElem_toArray, List.getElem_cons_succ, List.getElem_cons_zero]
          refine wpAnyH_take (i := 3) (v := .int .i64 1) rfl (by kernel_rfl) (by kernel_rfl) (by kernel_rfl) (fun _ _ _ h => h) (Or.inl ⟨by rfl, by intro w hSw; clear hHeld hSw; go_simp; (try rfl)⟩) (by assumption) ?_
          simp only [Act.put, List.setIfInBounds_toArray, List.set_cons_zero, List.set_cons_succ, List.getElem_toArray, List.getElem_cons_succ, List.getElem_cons_zero]
          refine wpAnyH_take (i := 4) (v := .int .i64 0) rfl (by kernel_rfl) (by kernel_rfl) (by kernel_rfl) (fun _ _ _ h => h) (Or.inl ⟨by rfl, by intro w hSw; clear hHeld hSw; go_simp; (try rfl)⟩) (by assumption) ?_
          simp only [Act.put, List.setIfInBounds_toArray, List.set_cons_zero, List.set_cons_succ, List.getElem_toArray, List.getElem_cons_succ, List.getElem_cons_zero]
          refine wpAnyH_take (i := 5) (v := .pointer (some ⟨w.heap.size + 1 + 1, 0, none⟩)) rfl (by kernel_rfl) (by kernel_rfl) (by kernel_rfl) (fun _ _ _ h => h) (Or.inl ⟨by rfl, by intro w hSw; clear hHeld hSw; go_simp; (try rfl)⟩) (by assumption) ?_
          simp only [Act.put, List.setIfInBounds_toArray, List.set_cons_zero, List.set_cons_succ, List.getElem_toArray, List.getElem_cons_succ, List.getElem_cons_zero]
          refine wpAnyH_take (i := 6) (v := .slice (some ⟨gX, 0, none⟩) s0.length cX) rfl (by kernel_rfl) (by kernel_rfl) (by kernel_rfl) (fun _ _ _ h => h) (Or.inl ⟨by rfl, by intro w hSw; have tq := below_kept hSw.1 tx; clear hHeld hSw; go_simp⟩) (by assumption) ?_
          simp only [Act.put, List.setIfInBounds_toArray, List.set_cons_zero, List.set_cons_succ, List.getElem_toArray, List.getElem_cons_succ, List.getElem_cons_zero]
          refine wpAnyH_take (i := 7) (v := .pointer (some ⟨wr.heap.size, 2, none⟩)) rfl (by kernel_rfl) (by kernel_rfl) (by kernel_rfl) (fun _ _ _ h => h) (Or.inl ⟨by rfl, by intro w hSw; clear hHeld hSw; go_simp; (try rfl)⟩) (by assumption) ?_
          simp only [Act.put, List.setIfInBounds_toArray, List.set_cons_zero, List.set_cons_succ, List.getElem_toArray, List.getElem_cons_succ, List.getElem_cons_zero]
          refine wpAnyH_take (i := 8) (v := .int .i64 wh) rfl (by kernel_rfl) (by kernel_rfl) (by kernel_rfl) (fun _ _ _ h => h) (Or.inl ⟨by rfl, by intro w hSw; have tq : w.cell? ⟨wr.heap.size, 2, none⟩ = some (.int .i64 wh) := (cell_of_row _ _ _ _ _ _ hSw.2).trans rfl; clear hHeld hSw; go_simp⟩) (by assumption) ?_
          simp only [Act.put, List.setIfInBounds_toArray, List.set_cons_zero, List.set_cons_succ, List.getElem_toArray, List.getElem_cons_succ, List.getElem_cons_zero]
          refine wpAnyH_take (i := 9) (v := .int .i64 1) rfl (by kernel_rfl) (by kernel_rfl) (by kernel_rfl) (fun _ _ _ h => h) (Or.inl ⟨by rfl, by intro w hSw; clear hHeld hSw; go_simp; (try rfl)⟩) (by assumption) ?_
          simp only [Act.put, List.setIfInBounds_toArray, List.set_cons_zero, List.set_cons_succ, List.getElem_toArray, List.getElem_cons_succ, List.getElem_cons_zero]
          refine wpAnyH_take (i := 10) (v := .int .i64 0) rfl (by kernel_rfl) (by kernel_rfl) (by kernel_rfl) (fun _ _ _ h => h) (Or.inl ⟨by rfl, by intro w hSw; clear hHeld hSw; go_simp; (try rfl)⟩) (by assumption) ?_
          simp only [Act.put, List.setIfInBounds_toArray, List.set_cons_zero, List.set_cons_succ, List.getElem_toArray, List.getElem_cons_succ, List.getElem_cons_zero]
          refine wpAnyH_take (i := 11) (v := .pointer (some ⟨w.heap.size + 1 + 1, 0, none⟩)) rfl (by kernel_rfl) (by kernel_rfl) (by kernel_rfl) (fun _ _ _ h => h) (Or.inl ⟨by rfl, by intro w hSw; clear hHeld hSw; go_simp; (try rfl)⟩) (by assumption) ?_
          simp only [Act.put, List.setIfInBounds_toArray, List.set_cons_zero, List.set_cons_succ, List.getElem_toArray, List.getElem_cons_succ, List.getElem_cons_zero]
          refine wpAnyH_take (i := 12) (v := .slice (some ⟨gX, 0, none⟩) s0.length cX) rfl (by kernel_rfl) (by kernel_rfl) (by kernel_rfl) (fun _ _ _ h => h) (Or.inl ⟨by rfl, by intro w hSw; have tq := below_kept hSw.1 tx; clear hHeld hSw; go_simp⟩) (by assumption) ?_
          simp only [Act.put, List.setIfInBounds_toArray, List.set_cons_zero, List.set_cons_succ, List.getElem_toArray, List.getElem_cons_succ, List.getElem_cons_zero]
          refine wpAnyH_take (i := 13) (v := .int .i64 s0.length) rfl (by kernel_rfl) (by kernel_rfl) (by kernel_rfl) (fun _ _ _ h => h) (Or.inl ⟨by rfl, by intro w hSw; clear hHeld hSw; go_simp; (try rfl)⟩) (by assumption) ?_
          simp only [Act.put, List.setIfInBounds_toArray, List.set_cons_zero, List.set_cons_succ, List.getElem_toArray, List.getElem_cons_succ, List.getElem_cons_zero]
          refine wpAnyH_take (i := 14) (v := .int .i64 q) rfl (by kernel_rfl) (by kernel_rfl) (by kernel_rfl) (fun _ _ _ h => h) (Or.inl ⟨by rfl, by intro w hSw; clear hHeld hSw; go_simp; (try exact hqt)⟩) (by assumption) ?_
          simp only [Act.put, List.setIfInBounds_toArray, List.set_cons_zero, List.set_cons_succ, List.getElem_toArray, List.getElem_cons_succ, List.getElem_cons_zero]
          refine wpAnyH_take (i := 15) (v := .pointer (some ⟨gX, q, none⟩)) rfl (by kernel_rfl) (by kernel_rfl) (by kernel_rfl) (fun _ _ _ h => h) (Or.inl ⟨by rfl, by intro w hSw; clear hHeld hSw; go_simp; (try rfl)⟩) (by assumption) ?_
          simp only [Act.put, List.setIfInBounds_toArray, List.set_cons_zero, List.set_cons_succ, List.getElem_toArray, List.getElem_cons_succ, List.getElem_cons_zero]
          refine wpAnyH_take (i := 16) (v := mv) rfl (by kernel_rfl) (by kernel_rfl) (by kernel_rfl) (fun _ _ _ h => h) (Or.inl ⟨by rfl, by intro w hSw; have tq := below_kept hSw.1 hmv; clear hHeld hSw; go_simp⟩) (by assumption) ?_
          simp only [Act.put, List.setIfInBounds_toArray, List.set_cons_zero, List.set_cons_succ, List.getElem_toArray, List.getElem_cons_succ, List.getElem_cons_zero]
          refine wpAnyH_take (i := 17) (v := .int .i64 (N + wt)) rfl (by kernel_rfl) (by kernel_rfl) (by kernel_rfl) (fun _ _ _ h => h) (Or.inl ⟨by rfl, by intro w hSw; clear hHeld hSw; go_simp; (try rfl)⟩) (by assumption) ?_
          simp only [Act.put, List.setIfInBounds_toArray, List.set_cons_zero, List.set_cons_succ, List.getElem_toArray, List.getElem_cons_succ, List.getElem_cons_zero]
          refine wpAnyH_ready (rs := [18]) (by kernel_rfl) (by simp) ?_
          refine AllReadyH.cons (i := 18) (rs := []) rfl ?_ AllReadyH.nil
          intro Kq hKq
          simp only [List.getElem_toArray, List.getElem_cons_succ, List.getElem_cons_zero]
          rw [if_pos (by rfl)]
          refine wp_call_fn 20 #[.agg y.cells, mv, .int .i64 (N + wt)] (_) (by as_aux_lemma => kernel_rfl) (CON.out _ (HMI.out.below HBW.out.drew)) ?_
          rintro e w1 ⟨v2, rfl, hO, hb1⟩
          refine ⟨.tuple #[.agg k2.cells, v2, .int .i64 er], rfl, ?_⟩
          have HB1 := Lib.hid (show Below wr.heap.size wr w1 from HBW.out.drew.trans (hb1.mono HBW.out.size))
          have RT1 := Lib.hid (show w1.heap[wr.heap.size + 1]? = some (.cells #[.int .u8 0, .int .u8 0, .int .u8 0, .int .u8 0, .int .u8 0, .int .u8 0, .int .u8 0, .int .u8 0, .int .u8 0, .int .u8 0, .int .u8 0, .int .u8 0, .int .u8 0, .int .i64 0, .int .i64 0, .int .i64 0, .int .i64 0] 27) from row_below hb1 RT.out)
          have RE1 := Lib.hid (show w1.heap[wr.heap.size]? = some (.cells #[.int .u8 kd, .int .u8 tt, .int .i64 wh, .int .i64 wt] 56) from row_below hb1 RE.out)
          refine hKq.out _ _ (⟨HB1.out, RE1.out⟩) (fun hHeld2 => ?_)
          clear hKq Kq hHeld
          have hHeld := hHeld2
          clear hHeld2
          simp only [Act.put, List.setIfInBounds_toArray, List.set_cons_zero, List.set_cons_succ]
          refine wpAnyH_take (i := 19) (v := .tuple #[.agg k2.cells, v2, .int .i64 er]) rfl (by kernel_rfl) (by kernel_rfl) (by kernel_rfl) (fun _ _ _ h => h) (Or.inl ⟨by rfl, by intro w hSw; clear hHeld hSw; go_simp; (try rfl)⟩) (by assumption) ?_
          simp only [Act.put, List.setIfInBounds_toArray, List.set_cons_zero, List.set_cons_succ, List.getElem_toArray, List.getElem_cons_succ, List.getElem_cons_zero]
          refine wpAnyH_take (i := 20) (v := .agg k2.cells) rfl (by kernel_rfl) (by kernel_rfl) (by kernel_rfl) (fun _ _ _ h => h) (Or.inl ⟨by rfl, by intro w hSw; clear hHeld hSw; go_simp; (try rfl)⟩) (by assumption) ?_
          simp only [Act.put, List.setIfInBounds_toArray, List.set_cons_zero, List.set_cons_succ, List.getElem_toArray, List.getElem_cons_succ, List.getElem_cons_zero]
          refine wpAnyH_take (i := 21) (v := v2) rfl (by kernel_rfl) (by kernel_rfl) (by kernel_rfl) (fun _ _ _ h => h) (Or.inl ⟨by rfl, by intro w hSw; clear hHeld hSw; go_simp; (try rfl)⟩) (by assumption) ?_
          simp only [Act.put, List.setIfInBounds_toArray, List.set_cons_zero, List.set_cons_succ, List.getElem_toArray, List.getElem_cons_succ, List.getElem_cons_zero]
          refine wpAnyH_take (i := 22) (v := .int .i64 er) rfl (by kernel_rfl) (by kernel_rfl) (by kernel_rfl) (fun _ _ _ h => h) (Or.inl ⟨by rfl, by intro w hSw; clear hHeld hSw; go_simp; (try rfl)⟩) (by assumption) ?_
          simp only [Act.put, List.setIfInBounds_toArray, List.set_cons_zero, List.set_cons_succ, List.getElem_toArray, List.getElem_cons_succ, List.getElem_cons_zero]
          refine wpAnyH_ready (rs := [23]) (by kernel_rfl) (by simp) ?_
          refine AllReadyH.cons (i := 23) (rs := []) rfl ?_ AllReadyH.nil
          intro Kq hKq
          simp only [List.getElem_toArray, List.getElem_cons_succ, List.getElem_cons_zero]
          rw [if_pos (by rfl)]
          refine wp_store_row 27 (.tmp 11) (.tmp 54) (by rfl) (wr.heap.size + 1) k2.cells (by as_aux_lemma => kernel_rfl) (by as_aux_lemma => kernel_rfl) 27 #[.int .u8 0, .int .u8 0, .int .u8 0, .int .u8 0, .int .u8 0, .int .u8 0, .int .u8 0, .int .u8 0, .int .u8 0, .int .u8 0, .int .u8 0, .int .u8 0, .int .u8 0, .int .i64 0, .int .i64 0, .int .i64 0, .int .i64 0] RT1.out HI2.out (by as_aux_lemma => kernel_rfl) (one_cells _) ?_
          refine hKq.out _ _ (⟨below_setRow' HB1.out (Nat.le_succ _) _, (setRow_other _ _ _ _ (Nat.ne_of_lt (Nat.lt_succ_self _))).trans RE1.out⟩) (fun hHeld2 => ?_)
          clear hKq Kq hHeld
          have hHeld := hHeld2
          clear hHeld2
          simp only [Act.put, List.setIfInBounds_toArray, List.set_cons_zero, List.set_cons_succ]
          refine wpAnyH_take (i := 24) (v := v2) rfl (by kernel_rfl) (by kernel_rfl) (by kernel_rfl) (fun _ _ _ h => h) (Or.inl ⟨by rfl, by intro w hSw; clear hHeld hSw; go_simp; (try rfl)⟩) (by assumption) ?_
          simp only [Act.put, List.setIfInBounds_toArray, List.set_cons_zero, List.set_cons_succ, List.getElem_toArray, List.getElem_cons_succ, List.getElem_cons_zero]
          refine wpAnyH_take (i := 25) (v := .int .i64 er) rfl (by kernel_rfl) (by kernel_rfl) (by kernel_rfl) (fun _ _ _ h => h) (Or.inl ⟨by rfl, by intro w hSw; clear hHeld hSw; go_simp; (try rfl)⟩) (by assumption) ?_
          simp only [Act.put, List.setIfInBounds_toArray, List.set_cons_zero, List.set_cons_succ, List.getElem_toArray, List.getElem_cons_succ, List.getElem_cons_zero]
          clear hHeld
          refine wpAnyH_done (by kernel_rfl) ?_ _
          go_wp2_with fail
          go_meet
          case rel => exact ⟨k2, ms2, er, _, rfl, rfl, HSP.out, HF.out.2.1, HF.out.2.2, setRow_heap _ _ _ _ _ _ RT1.out, below_setRow' HB1.out (Nat.le_succ _) _, (hO.setRow _ hTl _).mono hTl⟩
        case rest =>
          obtain ⟨k2, ms2, er, v2, rfl, rfl, hstep, hf2, hf3, rT, hbx, lx⟩ := hcut
          have TC := Lib.hid (T.out.step hbx)
          have CT := Lib.hid rT
          have LX := Lib.hid lx
          have hz1 : w.heap.size + 1 + 1 < wr.heap.size := row_lt T.out.ro
          have HI2 := Lib.hid (link_info2 k2)
          clear rT lx RE RT HBW T tx hTl
          by_cases he : er = 0
          · subst he
            obtain ⟨h', kb', hh', hS'⟩ := Sys.step S.out.swap (hstep rfl)
            have S2 := Lib.hid hS'.swap
            clear hS' hstep S
            have HTH := Lib.hid (show wc.there w.heap.size 17 k2.cells.size from there_of_row TC.out.rp 17 17 (by rw [pair_size]; decide))
            go_upto_region 22 with (first
              | (with_reducible refine wpList_load_row rfl 27 (.tmp 11) rfl (wr.heap.size + 1) rfl 27 k2.cells (0, 0) _ CT.out Try.underlying27 rfl HI2.out ?_)
              | ((with_reducible refine wpList_store_midTo rfl rfl 27 (.tmp 108) (.tmp 107) rfl w.heap.size 17 k2.cells ?_ ?_ HTH.out HI2.out (one_cells _) ?_); (as_aux_lemma => kernel_rfl); (as_aux_lemma => kernel_rfl)))
            have TD := Lib.hid (TC.out.link1 k2)
            have LY := Lib.hid (show OutAt (wc.setCells w.heap.size 17 k2.cells.toList) (w.heap.size + 3) u12 ms2 from (LX.out.kept (fun b hb _ => heap_setCells_far _ _ _ _ _ (by omega))).mono (by omega))
            clear TC CT LX HTH hbx
            generalize wc.setCells w.heap.size 17 k2.cells.toList = wd at *
            obtain ⟨xsO, hoO, hxO⟩ := TD.out.l1
            obtain ⟨nws, hrd, hnx⟩ := LY.out.reads
            have HOO := Lib.hid hoO
            have HXO := Lib.hid hxO
            have HRD := Lib.hid hrd
            have HNX := Lib.hid hnx
            have hxl : xsO.length = s1.length := by have := hoO.1; omega
            clear hoO hxO hrd hnx LY
            have q0 : wd.cell? ⟨w.heap.size + 1 + 1, 0, none⟩ = some (.slice aoX s0.length cX) := (cell_of_row _ _ _ _ _ _ TD.out.ro).trans rfl
            have q1 : wd.cell? ⟨w.heap.size + 1 + 1, 1, none⟩ = some v1 := (cell_of_row _ _ _ _ _ _ TD.out.ro).trans rfl
            have hz2 : w.heap.size + 1 + 1 < wd.heap.size := row_lt TD.out.ro
            have HBK := Lib.hid (fun g e => (TD.out.l1.block g e).2.1)
            go_upto_region 23 with (refine wpList_append_list rfl (some 114) rfl (.tmp 112) (.tmp 113) rfl (w.heap.size + 3) v1 s1.length xsO rfl HOO.out u12 ms2.length nws rfl HRD.out (by omega) (by omega) ?_; intro v5 w5 ho5 hg5 ha5; obtain ⟨ao5, n5, c5, e5⟩ := row_slice ho5; subst e5; have r5 := (hg5.block (w.heap.size + 1 + 1) hz2 (fun e => by have := HBK.out _ e.symm; omega)).trans TD.out.ro; have q5 : w5.cell? ⟨w.heap.size + 1 + 1, 1, none⟩ = some v1 := (cell_of_row _ _ _ _ _ _ r5).trans rfl; have f5 : ∀ o, w5.frozen? ⟨w.heap.size + 1 + 1, o, none⟩ = false := fun o => frozen_of_row _ _ _ _ _ r5; have TE := Lib.hid (TD.out.sent1 hxl HXO.out HNX.out ho5 hg5 ha5); clear ho5 hg5 ha5 r5)
            clear TD HOO HXO HRD HNX q0 q1 hz2 HBK f5 q5
            generalize w5.setCell ⟨w.heap.size + 1 + 1, 1, none⟩ (.slice ao5 n5 c5) = wE at *
            obtain ⟨xsA, hoA, hxA⟩ := TE.out.all
            have HOA := Lib.hid hoA
            have HXA := Lib.hid hxA
            clear hoA hxA
            have hz9 : w.heap.size + 1 + 1 < wE.heap.size := row_lt TE.out.ro
            have HIPP := Lib.hid (pair_info x k2)
            have hk9 : k + 1 ≤ 1000 := by omega
            have hb9 : w.heap.size + 1 ≤ wE.heap.size := by omega
            go_upto_region 6 with (first
              | (with_reducible refine wpList_load_row rfl 28 (.tmp 2) rfl w.heap.size rfl 28 (pairCells x k2) (0, 0) _ TE.out.rp Try.underlying28 rfl HIPP.out ?_)
              | (with_reducible refine wpList_runTo rfl (some 118) rfl (.slice (some ⟨wE.heap.size, 0, none⟩) 1 1) (wE.alloc (.cells (pairCells x k2) 28)) (by as_aux_lemma => kernel_rfl) ?_; simp only [Act.put, List.setIfInBounds_toArray, List.set_cons_succ, List.set_cons_zero])
              | (refine wpList_append_all rfl (some 119) rfl (.tmp 116) (.tmp 118) rfl (w.heap.size + 1) u5 (k + 1) xsA rfl (HOA.out.alloc _) wE.heap.size rfl x k2 (heap_alloc_new _ _) hk9 (Nat.le_trans hb9 (Nat.le_of_lt (lt_alloc _ _))) ?_; intro v7 w7 ho7 hg7; have TF := Lib.hid (TE.out.more S2.out.good HXA.out HOA.out ho7 hg7); clear ho7 hg7))
            go_wp2_with fail
            go_roundg (n - (k + 1))
            case measure => omega
            case rel => exact ⟨k + 1, N + wt, by omega, rfl, rfl, rfl, x, k2, g, h', ka, kb', s0, s1 ++ ms2, (.slice aoX s0.length cX), (.slice ao5 n5 c5), S2.out, by omega, by omega, by omega, by rw [List.length_append]; omega, by omega, TF.out⟩
          · have hez : (er == 0) = false := by simpa using he
            go_upto_region 23 with fail
            obtain ⟨xsA, hoA, hxA⟩ := TC.out.all
            have HOA := Lib.hid hoA
            have HXA := Lib.hid hxA
            clear hoA hxA
            have hz9 : w.heap.size + 1 + 1 < wc.heap.size := row_lt TC.out.ro
            have HIPP := Lib.hid (pair_info x y)
            have hk9 : k + 1 ≤ 1000 := by omega
            have hb9 : w.heap.size + 1 ≤ wc.heap.size := by omega
            go_upto_region 6 with (first
              | (with_reducible refine wpList_load_row rfl 28 (.tmp 2) rfl w.heap.size rfl 28 (pairCells x y) (0, 0) _ TC.out.rp Try.underlying28 rfl HIPP.out ?_)
              | (with_reducible refine wpList_runTo rfl (some 118) rfl (.slice (some ⟨wc.heap.size, 0, none⟩) 1 1) (wc.alloc (.cells (pairCells x y) 28)) (by as_aux_lemma => kernel_rfl) ?_; simp only [Act.put, List.setIfInBounds_toArray, List.set_cons_succ, List.set_cons_zero])
              | (refine wpList_append_all rfl (some 119) rfl (.tmp 116) (.tmp 118) rfl (w.heap.size + 1) u5 (k + 1) xsA rfl (HOA.out.alloc _) wc.heap.size rfl x y (heap_alloc_new _ _) hk9 (Nat.le_trans hb9 (Nat.le_of_lt (lt_alloc _ _))) ?_; intro v7 w7 ho7 hg7; have TF := Lib.hid (TC.out.more S.out.good HXA.out HOA.out ho7 hg7); clear ho7 hg7))
            go_wp2_with fail
            go_roundg (n - (k + 1))
            case measure => omega
            case rel => exact ⟨k + 1, N + wt, by omega, rfl, rfl, rfl, x, y, g, h, ka, kb, s0, s1, (.slice aoX s0.length cX), v1, S.out, by omega, by omega, by omega, by omega, by omega, TF.out⟩
    · obtain rfl : k = n := by omega
      go_wp2
      go_ret
      exact ⟨_, _, rfl, T.out.all, T.out.below⟩
end Go.Proofs.Ytmighkgjbohieaa
