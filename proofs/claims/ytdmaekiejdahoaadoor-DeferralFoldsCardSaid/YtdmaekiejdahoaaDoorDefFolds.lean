/-
  The walk of DeferralFolds: hearing frames one after the other never ends a reservation early.
-/
import Derived.Test.YtdmaekiejdahoaaDoorDefHeads
import Derived.Deep.LoopGhost
import Derived.Deep.DeepCutAuto
import Derived.Outline
import Derived.Handy
import Derived.WalkLawsBesides
set_option linter.unusedVariables false
set_option linter.unusedSimpArgs false
namespace Go.Proofs.YtdmaekiejdahoaaDoor.deferralFolds
open Go.ChangeShapes Go.WideShapes Go.ChangeAt Go.RowKit Go.Great

def BoolR (w : World) (e : Ending) (w' : World) : Prop := e = .returned (.bool true) ∧ Below w.heap.size w w'
theorem below_setRow' {w w' : World} {B g : Nat} (h : Below B w w') (hg : B ≤ g) (cs : Array Value) : Below B w (w'.setRow g cs) :=
  ⟨h.os, h.tape, h.output, by simp only [size_setRow]; exact h.size, fun k hk => (setRow_other _ _ _ _ (by omega)).trans (h.block k hk)⟩
def FoldAt (w : World) (a0 : Nat) (wr : World) (k : Nat) (now u : Int) : Prop :=
  (0 ≤ now ∧ now ≤ 200 * (k : Int)) ∧ (0 ≤ u ∧ u ≤ now + 32767) ∧ wr.heap[a0]? = some (.cells #[.int .i64 u, .int .i64 0] 23) ∧ Below w.heap.size w wr
theorem heard_step {hd : Array Value} {k s d u e : Int} (H : HdAt hd k s d) (hu : 0 ≤ u ∧ u ≤ 2199023255552) (he : 0 ≤ e ∧ e ≤ 1099511627776) (hd0 : 0 ≤ d ∧ d ≤ 32767) (hr : reqB k s = false) (W : World) :
    Calls Tryd.prog 21 #[.agg #[.int .i64 u, .int .i64 0], .agg #[.int .u8 0, .int .u8 0, .int .u8 0, .int .u8 0, .int .u8 0, .int .u8 0], .agg (withA1 hd), .int .i64 e, .int .i64 0] W fun en w' => en = .returned (.tuple #[.agg #[.int .i64 (fU u e d), .int .i64 0], .int .i64 0]) ∧ Below W.heap.size W w' := by
  have h := heard_any u 0 0 0 0 0 0 0 (withA1 hd) k s d 2 0 0 0 0 9 e 0 H.head (by decide) (by decide) (by decide) (by decide) (by decide) (by decide) (by decide) (by decide) (by decide) (by decide) (by decide) (by decide) W
  rw [show addrB 2 0 0 0 0 9 0 0 0 0 0 0 = false by decide, hr] at h
  obtain ⟨h1, h2, h3⟩ := fold_step hu he hd0
  rw [h1, h2, h3] at h
  exact h
theorem until_step {u : Int} (hu : 0 ≤ u ∧ u ≤ 2199023255552) (W : World) : Calls Tryd.prog 10 #[.agg #[.int .i64 u, .int .i64 0]] W fun en w' => en = .returned (.tuple #[.int .i64 u, .int .i64 0]) ∧ Below W.heap.size W w' := by
  have h := until_all u 0 W
  rw [(fold_until hu).1, (fold_until hu).2] at h
  exact h
theorem withA1_size (hd : Array Value) : (withA1 hd).size = hd.size := by simp [withA1]
theorem withA1_put (hd : Array Value) : putC hd 10 otherCells.toList = withA1 hd := rfl
theorem withA1_one {hd : Array Value} (h : hd.all (·.oneCell') = true) : True := trivial
theorem fU_bounds {u e d now : Int} (hu : 0 ≤ u ∧ u ≤ now + 32767) (hn : now ≤ e) (he : 0 ≤ e) (hd : 0 ≤ d ∧ d ≤ 32767) : 0 ≤ fU u e d ∧ fU u e d ≤ e + 32767 := by
  simp only [fU]
  split <;> omega
theorem time_step {N q : Int} {k : Nat} (h : 0 ≤ N ∧ N ≤ 200 * (k : Int)) (hq : 0 ≤ q ∧ q < 200) : 0 ≤ N + 1 + q ∧ N + 1 + q ≤ 200 * ((k + 1 : Nat) : Int) := by omega
theorem small {N : Int} {k n : Nat} (h : 0 ≤ N ∧ N ≤ 200 * (k : Int)) (hk : k ≤ n) (hn : n ≤ 50) : N ≤ 10000 := by omega
theorem meas {k n : Nat} (h : k < n) : n - (k + 1) < n - k := by omega
theorem nav_info (a b : Int) : (Tryd.prog.info? 23).map (·.size) = some (#[.int .i64 a, .int .i64 b] : Array Value).size := by kernel_rfl
theorem nav_one (a b : Int) : (#[.int .i64 a, .int .i64 b] : Array Value).all (·.oneCell') = true := by kernel_rfl
theorem nav_size (a b c d : Int) : (#[.int .i64 a, .int .i64 b] : Array Value).size = (#[.int .i64 c, .int .i64 d] : Array Value).size := rfl
theorem other_one : otherCells.all (·.oneCell') = true := by kernel_rfl
theorem other_info : (Tryd.prog.info? 46).map (·.size) = some otherCells.size := by kernel_rfl
set_option maxRecDepth 100000 in
set_option maxHeartbeats 8000000 in
theorem out (v1 v2 : Value) (n m : Nat) (Z : Nat → Int) (w : World) (T : Tab w) (O : Oth w) (h1 : HeadsIn w v1 n) (h2 : GapsIn w v2 m Z) (hx : 50 < n ∨ (n ≤ 50 ∧ m ≠ n)) : Calls Tryd.prog 4 #[v1, v2] w (BoolR w) := by
  obtain ⟨ao, c1, rfl, _, _, hd1⟩ := h1
  obtain ⟨ag, c2, rfl, _, _, hd2⟩ := h2
  clear hd1 hd2
  have HT := Lib.hid T
  have HO := Lib.hid O
  clear T O
  go_enter Tryd.func4, Tryd.ntmps4
  go_wp2_with fail
  refine (alive_any _ HT.out HO.out).mono ?_
  rintro e w1 ⟨rfl, hb⟩
  have HB := Lib.hid hb
  clear hb
  rcases hx with hx | ⟨hx, hm⟩
  · have hxz : (50 : Int) < (n : Int) := by omega
    go_wp2
    go_ret
    exact ⟨rfl, HB.out⟩
  · have hxz : (n : Int) ≤ 50 := by omega
    have hmz : ((m : Int) == (n : Int)) = false := by simp; omega
    have hmz2 : ((m : Int) != (n : Int)) = true := by simp only [bne, hmz]; rfl
    go_wp2
    go_ret
    exact ⟨rfl, HB.out⟩
set_option maxRecDepth 100000 in
set_option maxHeartbeats 16000000 in
theorem in_ (v1 v2 : Value) (n : Nat) (Z : Nat → Int) (w : World) (T : Tab w) (O : Oth w) (h1 : HeadsIn w v1 n) (h2 : GapsIn w v2 n Z) (hn : n ≤ 50) : Calls Tryd.prog 4 #[v1, v2] w (BoolR w) := by
  obtain ⟨ao, c1, rfl, hc1, hm1, hd1⟩ := h1
  obtain ⟨ag, c2, rfl, hc2, hm2, hd2⟩ := h2
  have HD1 := Lib.hid hd1
  have HD2 := Lib.hid hd2
  clear hd1 hd2
  have HT := Lib.hid T
  have HO := Lib.hid O
  clear T O
  have hnz : (n : Int) ≤ 50 := by omega
  go_enter Tryd.func4, Tryd.ntmps4
  go_wp2_with fail
  refine (alive_any _ HT.out HO.out).mono ?_
  rintro e w1 ⟨rfl, hb⟩
  have HB := Lib.hid (below_alloc1 hb (o := .cells #[.int .i64 0, .int .i64 0] 23))
  have hz1 : w.heap.size ≤ w1.heap.size := hb.size
  have HST := Lib.hid (show FoldAt w w1.heap.size (w1.alloc (.cells #[.int .i64 0, .int .i64 0] 23)) 0 0 0 from ⟨by decide, by decide, heap_alloc_new _ _, HB.out⟩)
  clear hb
  go_wp2_with fail
  go_loopg [7, 8, 9] n (fun g t7 t8 t9 wr => ∃ (k : Nat) (N u : Int), k ≤ n ∧ g = n - k ∧ t9 = .int .i64 k ∧ t7 = .int .i64 N ∧ t8 = .int .i64 u ∧ FoldAt w w1.heap.size wr k N u)
  case atStart => exact ⟨0, 0, 0, by omega, by omega, rfl, rfl, rfl, HST.out⟩
  case round =>
    clear HST HB
    obtain ⟨k, N, u, hk, rfl, rfl, rfl, rfl, hp⟩ := hrel
    obtain ⟨hN, hu, rN, hbw⟩ := hp
    have RN := Lib.hid rN
    have HB := Lib.hid hbw
    clear rN hbw
    by_cases hlt : k < n
    · have hlz : (k : Int) < (n : Int) := by omega
      have hkz : (0 : Int) ≤ (k : Int) := by omega
      have hN1 := small hN hk hn
      obtain ⟨b, ob, rfl, hcells⟩ := HD1.out (by omega)
      obtain ⟨b2, ob2, rfl, hgaps⟩ := HD2.out (by omega)
      obtain ⟨hd, kd, sb, du, hH, hrg⟩ := hcells k hlt
      obtain ⟨hg, hgz⟩ := hgaps k hlt
      generalize Z k = z at *
      obtain ⟨q, hq⟩ : ∃ q, z.tmod 200 = q := ⟨_, rfl⟩
      have hq0 : 0 ≤ q ∧ q < 200 := by rw [Int.tmod_eq_emod_of_nonneg hgz.1] at hq; omega
      have HH := Lib.hid hH
      have RG := Lib.hid (range_below hrg HB.out)
      have HG := Lib.hid (below_kept HB.out hg)
      have HOW := Lib.hid (HO.out.below HB.out)
      clear hcells hgaps hrg hg hH
      have HS := Lib.hid (HH.out.size)
      have HINF := Lib.hid (show (Tryd.prog.info? 48).map (·.size) = some hd.size by rw [HH.out.size]; kernel_rfl)
      have HZS := Lib.hid (show zeroHd.size = hd.size from (show zeroHd.size = 40 from rfl).trans HH.out.size.symm)
      have hwz : w1.heap.size < wr.heap.size := row_lt RN.out
      go_upto_region 10 with (first
        | (with_reducible refine wpList_load_sub rfl 48 (.tmp 39) rfl b (ob + k * 40) rfl hd _ RG.out Tryd.underlying48 rfl HINF.out ?_)
        | (with_reducible refine wpList_runTo rfl (some 10) rfl (.pointer (some ⟨wr.heap.size, 0, none⟩)) (wr.alloc (.cells zeroHd 48)) (by as_aux_lemma => kernel_rfl) ?_; simp only [Act.put, List.setIfInBounds_toArray, List.set_cons_succ, List.set_cons_zero])
        | ((with_reducible refine wpList_store_rowTo rfl 48 (.tmp 10) (.tmp 40) rfl rfl wr.heap.size hd ?_ ?_ 48 zeroHd (heap_alloc_new _ _) HINF.out HZS.out HH.out.ones ?_); (as_aux_lemma => kernel_rfl); (as_aux_lemma => kernel_rfl); rw [setRow_alloc]))
      have RH := Lib.hid (heap_alloc_new wr (.cells hd 48))
      have RNa := Lib.hid (row_alloc (o := .cells hd 48) RN.out)
      have HBa := Lib.hid (HB.out.alloc HB.out.size (.cells hd 48))
      have HOa := Lib.hid (HOW.out.alloc (o := .cells hd 48))
      have HGa := Lib.hid (below_kept ((Below.refl _ _).alloc (Nat.le_refl _) (.cells hd 48)) HG.out)
      generalize wr.alloc (.cells hd 48) = wa at *
      have HTH := Lib.hid (show wa.there wr.heap.size 10 otherCells.size from there_of_row RH.out 10 6 (by rw [HH.out.size]; decide))
      obtain ⟨o0, o1, o2, o3, o4, o5⟩ := HOa.out
      go_upto_region 11 with ((with_reducible refine wpList_store_midTo rfl rfl 46 (.tmp 42) (.tmp 41) rfl wr.heap.size 10 otherCells ?_ ?_ HTH.out other_info other_one ?_); (as_aux_lemma => kernel_rfl); (as_aux_lemma => kernel_rfl))
      clear o0 o1 o2 o3 o4 o5
      have RHb := Lib.hid (show (wa.setCells wr.heap.size 10 otherCells.toList).heap[wr.heap.size]? = some (.cells (withA1 hd) 48) from (heap_setCells_same _ _ _ _ _ _ RH.out).trans (by rw [withA1_put]))
      have RNb := Lib.hid (show (wa.setCells wr.heap.size 10 otherCells.toList).heap[w1.heap.size]? = some (.cells #[.int .i64 u, .int .i64 0] 23) from (heap_setCells_far _ _ _ _ _ (Nat.ne_of_lt hwz)).trans RNa.out)
      have HBb := Lib.hid (show Below w.heap.size w (wa.setCells wr.heap.size 10 otherCells.toList) from below_setCells' HB.out.size _ _ _ _ HBa.out)
      have lgb : b2 < wr.heap.size := World.block_lt_of_cell? _ _ HG.out
      have HGb := Lib.hid (show (wa.setCells wr.heap.size 10 otherCells.toList).cell? ⟨b2, ob2 + k, none⟩ = some (.int .u8 z) from (cell_far (Nat.ne_of_lt lgb)).trans HGa.out)
      clear RH RNa HBa HOa HGa HTH RN HB HG HOW RG HZS
      generalize wa.setCells wr.heap.size 10 otherCells.toList = wb at *
      have HINF2 := Lib.hid (show (Tryd.prog.info? 48).map (·.size) = some (withA1 hd).size by rw [withA1_size]; exact HINF.out)
      have y0 : wb.cell? ⟨wr.heap.size, 0, none⟩ = some (.int .u8 kd) := (cell_of_row _ _ _ _ _ _ RHb.out).trans HH.out.head.kind
      have y1 : wb.cell? ⟨wr.heap.size, 1, none⟩ = some (.int .u8 sb) := (cell_of_row _ _ _ _ _ _ RHb.out).trans HH.out.head.sub
      have y9 : wb.cell? ⟨wr.heap.size, 9, none⟩ = some (.int .i64 du) := (cell_of_row _ _ _ _ _ _ RHb.out).trans HH.out.head.dur
      by_cases d0 : du < 0
      · go_wp2
        go_ret
        exact ⟨rfl, HBb.out⟩
      by_cases d1 : 32767 < du
      · have d2 : 0 ≤ du := Int.not_lt.1 d0
        clear d0
        go_wp2
        go_ret
        exact ⟨rfl, HBb.out⟩
      have hdu : 0 ≤ du ∧ du ≤ 32767 := ⟨Int.not_lt.1 d0, Int.not_lt.1 d1⟩
      obtain ⟨hdu0, hdu1⟩ := hdu
      clear d0 d1
      by_cases hreq : reqB kd sb = true
      · have hkk : (kd == 1) = true ∧ (sb == 11) = true := by simpa [reqB] using hreq
        obtain ⟨k1, k2⟩ := hkk
        clear hreq
        go_wp2
        go_ret
        exact ⟨rfl, HBb.out⟩
      have hrf : reqB kd sb = false := by simpa using hreq
      have HE := Lib.hid (heard_step HH.out (u := u) (e := N + 1 + q) ⟨hu.1, by omega⟩ ⟨by omega, by omega⟩ ⟨hdu0, hdu1⟩ hrf)
      have hfb := fU_bounds hu (show N ≤ N + 1 + q by omega) (by omega) ⟨hdu0, hdu1⟩
      have HF := Lib.hid (show ((if u < N + 1 + q then 0 else u) : Int) = (if u < N + 1 + q then 0 else u) ∧ fU u (N + 1 + q) du = max (if u < N + 1 + q then 0 else u) (N + 1 + q + du) from ⟨rfl, rfl⟩)
      generalize fU u (N + 1 + q) du = f at *
      obtain ⟨hf0, hf1⟩ := hfb
      have HU := Lib.hid (until_step (u := f) ⟨hf0, by omega⟩)
      have HTS := Lib.hid (time_step hN hq0)
      have hrk : (kd == 1) = false ∨ ((kd == 1) = true ∧ (sb == 11) = false) := by
        simp only [reqB, Bool.and_eq_false_iff] at hrf
        rcases hrf with h | h
        · exact .inl h
        · by_cases h1 : (kd == 1) = true
          · exact .inr ⟨h1, h⟩
          · exact .inl (by simpa using h1)
      have hgb := HGb.out
      have q0 := hq0.1
      have q1 := hq0.2
      have n0 := hN.1
      have z0 := hgz.1
      have z1 := hgz.2
      clear hreq hrf hN hq0 hgz
      have hlt2 : ob2 + k < ob2 + n := by omega
      by_cases hun : u < N + 1 + q
      · have hmx : max (0 : Int) (N + 1 + q + du) = f := by have := HF.out.2; rw [if_pos hun] at this; exact this.symm
        rcases hrk with k1 | ⟨k1, k2⟩
        all_goals
          go_wp2_with (first
            | (with_reducible refine wpList_load_row rfl 23 (.tmp 6) rfl w1.heap.size rfl 23 #[.int .i64 u, .int .i64 0] (0, 0) _ RNb.out Tryd.underlying23 rfl (nav_info _ _) ?_)
            | (with_reducible refine wpList_load_row rfl 48 (.tmp 10) rfl wr.heap.size rfl 48 (withA1 hd) (0, 0) _ RHb.out Tryd.underlying48 rfl HINF2.out ?_))
          refine (HE.out _).mono ?_
          rintro e w3 ⟨rfl, hb⟩
          have RHc := Lib.hid (row_alloc (o := .cells #[.int .i64 f, .int .i64 0] 23) (row_below hb RHb.out))
          have RNc := Lib.hid (row_alloc (o := .cells #[.int .i64 f, .int .i64 0] 23) (row_below hb RNb.out))
          have RMc := Lib.hid (heap_alloc_new w3 (.cells #[.int .i64 f, .int .i64 0] 23))
          have HBc := Lib.hid (below_alloc1 (HBb.out.trans (hb.mono HBb.out.size)) (o := .cells #[.int .i64 f, .int .i64 0] 23))
          have hz3 : w1.heap.size < w3.heap.size := row_lt (row_below hb RNb.out)
          have y9c : (w3.alloc (.cells #[.int .i64 f, .int .i64 0] 23)).cell? ⟨wr.heap.size, 9, none⟩ = some (.int .i64 du) := (cell_of_row _ _ _ _ _ _ RHc.out).trans HH.out.head.dur
          clear hb y0 y1 y9 hgb
          go_wp2_with (with_reducible refine wpList_load_row rfl 23 (.tmp 11) rfl w3.heap.size rfl 23 #[.int .i64 f, .int .i64 0] (0, 0) _ RMc.out Tryd.underlying23 rfl (nav_info _ _) ?_)
          refine (HU.out _).mono ?_
          rintro e w4 ⟨rfl, hb⟩
          have RNd := Lib.hid (row_below hb RNc.out)
          have RMd := Lib.hid (row_below hb RMc.out)
          have HBd := Lib.hid (HBc.out.trans (hb.mono HBc.out.size))
          clear hb y9c
          go_wp2_with (first
            | (with_reducible refine wpList_load_row rfl 23 (.tmp 11) rfl w3.heap.size rfl 23 #[.int .i64 f, .int .i64 0] (0, 0) _ RMd.out Tryd.underlying23 rfl (nav_info _ _) ?_)
            | ((with_reducible refine wpList_store_rowTo rfl 23 (.tmp 6) (.tmp 102) rfl rfl w1.heap.size #[.int .i64 f, .int .i64 0] ?_ ?_ 23 #[.int .i64 u, .int .i64 0] RNd.out (nav_info f 0) (nav_size u 0 f 0) (nav_one f 0) ?_); (as_aux_lemma => kernel_rfl); (as_aux_lemma => kernel_rfl)))
          go_roundg (n - (k + 1))
          case measure => exact meas hlt
          case rel => exact ⟨k + 1, N + 1 + q, f, hlt, rfl, rfl, rfl, rfl, HTS.out, ⟨hf0, hf1⟩, setRow_heap _ _ _ _ _ _ RNd.out, below_setRow' HBd.out hz1 _⟩
      · have hmx : max u (N + 1 + q + du) = f := by have := HF.out.2; rw [if_neg hun] at this; exact this.symm
        have hun2 : N + 1 + q ≤ u := Int.not_lt.1 hun
        clear hun
        rcases hrk with k1 | ⟨k1, k2⟩
        all_goals
          go_wp2_with (first
            | (with_reducible refine wpList_load_row rfl 23 (.tmp 6) rfl w1.heap.size rfl 23 #[.int .i64 u, .int .i64 0] (0, 0) _ RNb.out Tryd.underlying23 rfl (nav_info _ _) ?_)
            | (with_reducible refine wpList_load_row rfl 48 (.tmp 10) rfl wr.heap.size rfl 48 (withA1 hd) (0, 0) _ RHb.out Tryd.underlying48 rfl HINF2.out ?_))
          refine (HE.out _).mono ?_
          rintro e w3 ⟨rfl, hb⟩
          have RHc := Lib.hid (row_alloc (o := .cells #[.int .i64 f, .int .i64 0] 23) (row_below hb RHb.out))
          have RNc := Lib.hid (row_alloc (o := .cells #[.int .i64 f, .int .i64 0] 23) (row_below hb RNb.out))
          have RMc := Lib.hid (heap_alloc_new w3 (.cells #[.int .i64 f, .int .i64 0] 23))
          have HBc := Lib.hid (below_alloc1 (HBb.out.trans (hb.mono HBb.out.size)) (o := .cells #[.int .i64 f, .int .i64 0] 23))
          have hz3 : w1.heap.size < w3.heap.size := row_lt (row_below hb RNb.out)
          have y9c : (w3.alloc (.cells #[.int .i64 f, .int .i64 0] 23)).cell? ⟨wr.heap.size, 9, none⟩ = some (.int .i64 du) := (cell_of_row _ _ _ _ _ _ RHc.out).trans HH.out.head.dur
          clear hb y0 y1 y9 hgb
          go_wp2_with (with_reducible refine wpList_load_row rfl 23 (.tmp 11) rfl w3.heap.size rfl 23 #[.int .i64 f, .int .i64 0] (0, 0) _ RMc.out Tryd.underlying23 rfl (nav_info _ _) ?_)
          refine (HU.out _).mono ?_
          rintro e w4 ⟨rfl, hb⟩
          have RNd := Lib.hid (row_below hb RNc.out)
          have RMd := Lib.hid (row_below hb RMc.out)
          have HBd := Lib.hid (HBc.out.trans (hb.mono HBc.out.size))
          clear hb y9c
          go_wp2_with (first
            | (with_reducible refine wpList_load_row rfl 23 (.tmp 11) rfl w3.heap.size rfl 23 #[.int .i64 f, .int .i64 0] (0, 0) _ RMd.out Tryd.underlying23 rfl (nav_info _ _) ?_)
            | ((with_reducible refine wpList_store_rowTo rfl 23 (.tmp 6) (.tmp 102) rfl rfl w1.heap.size #[.int .i64 f, .int .i64 0] ?_ ?_ 23 #[.int .i64 u, .int .i64 0] RNd.out (nav_info f 0) (nav_size u 0 f 0) (nav_one f 0) ?_); (as_aux_lemma => kernel_rfl); (as_aux_lemma => kernel_rfl)))
          go_roundg (n - (k + 1))
          case measure => exact meas hlt
          case rel => exact ⟨k + 1, N + 1 + q, f, hlt, rfl, rfl, rfl, rfl, HTS.out, ⟨hf0, hf1⟩, setRow_heap _ _ _ _ _ _ RNd.out, below_setRow' HBd.out hz1 _⟩
    · obtain rfl : k = n := by omega
      go_wp2
      go_ret
      exact ⟨rfl, HB.out⟩
theorem walk (v1 v2 : Value) (n m : Nat) (Z : Nat → Int) (w : World) (T : Tab w) (O : Oth w) (h1 : HeadsIn w v1 n) (h2 : GapsIn w v2 m Z) : Calls Tryd.prog 4 #[v1, v2] w (BoolR w) := by
  by_cases hx : 50 < n
  · exact out v1 v2 n m Z w T O h1 h2 (.inl hx)
  by_cases hm : m = n
  · subst hm
    exact in_ v1 v2 m Z w T O h1 h2 (by omega)
  · exact out v1 v2 n m Z w T O h1 h2 (.inr ⟨by omega, hm⟩)
end Go.Proofs.YtdmaekiejdahoaaDoor.deferralFolds
