/-
  The walk of DeferralKeeps: no start inside a reservation that was heard.
-/
import Derived.Test.YtdmaekiejdahoaaDoorDoorAlive
import Derived.Test.YtdmaekiejdahoaaDoorDoorHeard
import Derived.Test.YtdmaekiejdahoaaDoorDefEar
namespace Go.Proofs.YtdmaekiejdahoaaDoor.deferralKeeps
open Go.ChangeShapes Go.WideShapes Go.ChangeAt Go.RowKit

theorem h_bad (u l e d a : Int) (m r : Bool) (h : hE u l e d a ≠ 0) : hU u l e d a m = 0 ∧ hL u l e d a m r = 0 := by
  have : hOk u l e d a = false := by
    simp only [hE] at h
    simp only [hOk, Bool.and_eq_false_iff]
    split at h
    · split at h
      · exact absurd rfl h
      · right; simpa using ‹¬ heardOk e d a = true›
    · left; simpa using ‹¬ navE u l = 0›
  simp [hU, hL, this]
theorem hE_cases (u l e d a : Int) : hE u l e d a = 0 ∨ hE u l e d a = 2 ∨ hE u l e d a = 8 := by
  simp only [hE]; split <;> (try split) <;> simp
theorem h_ok (u l e d a : Int) (m r : Bool) (h : hE u l e d a = 0) : navE u l = 0 ∧ (0 ≤ e ∧ e ≤ 1099511627776) ∧ (0 ≤ d ∧ d ≤ 32767) ∧ (0 ≤ a ∧ a ≤ 32767) ∧ hU u l e d a m = heardU u l e d m ∧ hL u l e d a m r = heardL u l e d a m r := by
  simp only [hE] at h
  split at h
  · split at h
    · rename_i h1 h2
      have h3 := h2
      simp only [heardOk, decide_eq_true_eq] at h3
      have : hOk u l e d a = true := by simp [hOk, h1, h2]
      exact ⟨h1, h3.1, h3.2.1, h3.2.2, by simp [hU, this], by simp [hL, this]⟩
    · omega
  · omega
theorem nav_in (u l : Int) (h : navE u l = 0) : (0 ≤ u ∧ u ≤ 2199023255552) ∧ (0 ≤ l ∧ l ≤ 2199023255552) := by
  have h' : timeB u = true ∧ timeB l = true := by simp only [navE] at h; split at h <;> simp_all
  obtain ⟨h1, h2⟩ := h'
  simp only [timeB, decide_eq_true_eq] at h1 h2
  exact ⟨h1, h2⟩
/-- After a frame for another station that is no request, the allocation ends no sooner than the frame's reservation. -/
theorem end_frame (u l e d a : Int) (he : 0 ≤ e) (hd : 0 ≤ d) (_ : navE u l = 0) : e + d ≤ navEnd (heardU u l e d false) (heardL u l e d a false false) := by
  have hL : heardL u l e d a false false = 0 := by simp [heardL]
  have hN : ∀ p, navEnd p 0 = p := fun p => by simp [navEnd]
  rw [hL, hN]
  simp only [heardU]
  generalize (if navEnd u l < e then 0 else u) = y
  by_cases h : y < e + d
  · simp [h]
  · simp [h]; omega
/-- A reservation that was known and had not lapsed is kept. -/
theorem end_kept (u l e d a : Int) (m r : Bool) (he : 0 ≤ e) (hd : 0 ≤ d) (h : navE u l = 0) (hw : ¬ navEnd u l < e) : navEnd u l ≤ navEnd (heardU u l e d m) (heardL u l e d a m r) := by
  have := nav_in u l h
  have hn : navEnd u l ≤ u := by simp only [navEnd]; split <;> omega
  simp only [heardL, heardU, if_neg hw]
  cases m <;> cases r <;> simp only [Bool.not_false, Bool.not_true, Bool.true_and, Bool.false_and, Bool.and_true, Bool.and_false, decide_eq_true_eq] <;> (try simp only [if_neg (show ¬ (false = true) by decide)])
  all_goals
    by_cases q : u < e + d
    all_goals
      (try simp only [q, if_true, if_false])
      generalize navEnd u l = z at *
      simp only [navEnd]
      split <;> omega
theorem far (p q i c : Int) (h : earE p q i c = 0) : resB p q (earN p q i c) = false ∧ i + spaceN c ≤ earN p q i c ∧ navEnd p q + spaceN c ≤ earN p q i c ∧ 34 ≤ spaceN c ∧ spaceN c ≤ 79 ∧ (0 ≤ i ∧ i ≤ 2199023255552) ∧ ((timeB (earN p q i c) = true ∧ resE p q (earN p q i c) = 0) ∨ (2199023255552 < earN p q i c ∧ resE p q (earN p q i c) = 2)) := by
  obtain ⟨h1, h2, h3, h4, h5⟩ := ear_ok p q i c h
  have hs : 34 ≤ spaceN c ∧ spaceN c ≤ 79 := by
    simp only [spaceN]; split <;> (try split) <;> (try split) <;> omega
  have hb := earN_bounds p q i c
  have hi : 0 ≤ i ∧ i ≤ 2199023255552 := by simpa only [timeB, decide_eq_true_eq] using h3
  refine ⟨?_, by omega, by omega, hs.1, hs.2, hi, ?_⟩
  · have : decide (earN p q i c < navEnd p q) = false := by simp; omega
    simp only [resB, this, Bool.and_false]
  · by_cases t : timeB (earN p q i c) = true
    · exact .inl ⟨t, by simp [resE, h1, t]⟩
    · refine .inr ⟨?_, by simp [resE, h1, t]⟩
      simp only [timeB, decide_eq_true_eq] at t
      omega

set_option maxHeartbeats 8000000 in
set_option maxRecDepth 100000 in
theorem keeps_bad2 (u l s0 s1 s2 s3 s4 s5 : Int) (hd : Array Value) (kind sub d a0 a1 a2 a3 a4 a5 e a i c : Int) (H : Head hd kind sub d a0 a1 a2 a3 a4 a5) (h0 : 0 ≤ a0 ∧ a0 ≤ 255) (h1 : 0 ≤ a1 ∧ a1 ≤ 255) (h2 : 0 ≤ a2 ∧ a2 ≤ 255) (h3 : 0 ≤ a3 ∧ a3 ≤ 255) (h4 : 0 ≤ a4 ∧ a4 ≤ 255) (h5 : 0 ≤ a5 ∧ a5 ≤ 255) (g0 : 0 ≤ s0 ∧ s0 ≤ 255) (g1 : 0 ≤ s1 ∧ s1 ≤ 255) (g2 : 0 ≤ s2 ∧ s2 ≤ 255) (g3 : 0 ≤ s3 ∧ s3 ≤ 255) (g4 : 0 ≤ s4 ∧ s4 ≤ 255) (g5 : 0 ≤ s5 ∧ s5 ≤ 255) (hsz : hd.size = 40) (hc : 0 ≤ c ∧ c ≤ 255) (hbad : hE u l e d a = 2) 
    (w : World) (T : Tab w) (O : Oth w) :
    Calls Tryd.prog 5 #[.agg #[.int .i64 u, .int .i64 l], .agg #[.int .u8 s0, .int .u8 s1, .int .u8 s2, .int .u8 s3, .int .u8 s4, .int .u8 s5], .agg hd, .int .i64 e, .int .i64 a, .int .i64 i, .int .u8 c] w fun en w' => en = .returned (.bool true) ∧ Below w.heap.size w w' := by
  obtain ⟨e1, e2⟩ := h_bad u l e d a (addrB a0 a1 a2 a3 a4 a5 s0 s1 s2 s3 s4 s5) (reqB kind sub) (by rw [hbad]; decide)
  obtain ⟨f, hf⟩ : ∃ x, earE 0 0 i c = x := ⟨_, rfl⟩
  obtain ⟨t, ht⟩ : ∃ x, earN 0 0 i c = x := ⟨_, rfl⟩
  obtain ⟨g, hg⟩ : ∃ x, spaceE c = x := ⟨_, rfl⟩
  obtain ⟨s, hs⟩ : ∃ x, spaceN c = x := ⟨_, rfl⟩
  obtain ⟨v, hv⟩ : ∃ x, navE u l = x := ⟨_, rfl⟩
  obtain ⟨x, hx⟩ : ∃ x, untN u l = x := ⟨_, rfl⟩
  have HE := Lib.hid (show hE u l e d a = 2 from hbad)
  have HU := Lib.hid (show hU u l e d a (addrB a0 a1 a2 a3 a4 a5 s0 s1 s2 s3 s4 s5) = 0 from e1)
  have HL := Lib.hid (show hL u l e d a (addrB a0 a1 a2 a3 a4 a5 s0 s1 s2 s3 s4 s5) (reqB kind sub) = 0 from e2)
  have HF := Lib.hid (show earE 0 0 i c = f from hf)
  have HT := Lib.hid (show earN 0 0 i c = t from ht)
  have HG := Lib.hid (show spaceE c = g from hg)
  have HS := Lib.hid (show spaceN c = s from hs)
  have HV := Lib.hid (show navE u l = v from hv)
  have HX := Lib.hid (show untN u l = x from hx)
  clear hbad e1 e2 hf ht hg hs hv hx
  have hinfo : (Tryd.prog.info? 48).map (·.size) = some hd.size := by rw [hsz]; kernel_rfl
  clear hsz
  obtain ⟨rn, rs, rh⟩ := fr_rows3 w (.cells #[.int .i64 u, .int .i64 l] 23) (.cells #[.int .u8 s0, .int .u8 s1, .int .u8 s2, .int .u8 s3, .int .u8 s4, .int .u8 s5] 46) (.cells hd 48)
  have RN := Lib.hid rn
  have RS := Lib.hid rs
  have RH := Lib.hid rh
  clear rn rs rh
  go_enter Tryd.func5, Tryd.ntmps5
  go_wp2_with fail
  refine (alive_any _ T.alloc.alloc.alloc O.alloc.alloc.alloc).mono ?_
  rintro en w1 ⟨rfl, hb1⟩
  have hB1 : Below w.heap.size w w1 := ((((Below.refl _ _).alloc (Nat.le_refl _) _).alloc (by simp) _).alloc (by simp only [World.size_alloc]; omega) _).trans (hb1.mono (by simp only [World.size_alloc]; omega))
  have hz1 := hb1.size
  simp only [World.size_alloc] at hz1
  have RN1 := Lib.hid (row_below hb1 RN.out)
  have RS1 := Lib.hid (row_below hb1 RS.out)
  have RH1 := Lib.hid (row_below hb1 RH.out)
  have y1 : w.heap.size + 1 + 1 < w1.heap.size := by omega
  clear hb1 RN RS RH hz1
  have n0w1 : w1.cell? ⟨w.heap.size, 0, none⟩ = some (.int .i64 u) := (cell_of_row _ _ _ _ _ _ RN1.out).trans rfl
  have n1w1 : w1.cell? ⟨w.heap.size, 1, none⟩ = some (.int .i64 l) := (cell_of_row _ _ _ _ _ _ RN1.out).trans rfl
  have t0w1 : w1.cell? ⟨w.heap.size + 1, 0, none⟩ = some (.int .u8 s0) := (cell_of_row _ _ _ _ _ _ RS1.out).trans rfl
  have t1w1 : w1.cell? ⟨w.heap.size + 1, 1, none⟩ = some (.int .u8 s1) := (cell_of_row _ _ _ _ _ _ RS1.out).trans rfl
  have t2w1 : w1.cell? ⟨w.heap.size + 1, 2, none⟩ = some (.int .u8 s2) := (cell_of_row _ _ _ _ _ _ RS1.out).trans rfl
  have t3w1 : w1.cell? ⟨w.heap.size + 1, 3, none⟩ = some (.int .u8 s3) := (cell_of_row _ _ _ _ _ _ RS1.out).trans rfl
  have t4w1 : w1.cell? ⟨w.heap.size + 1, 4, none⟩ = some (.int .u8 s4) := (cell_of_row _ _ _ _ _ _ RS1.out).trans rfl
  have t5w1 : w1.cell? ⟨w.heap.size + 1, 5, none⟩ = some (.int .u8 s5) := (cell_of_row _ _ _ _ _ _ RS1.out).trans rfl
  go_wp2_with (with_reducible refine wpList_load_row rfl 48 (.tmp 9) rfl (w.heap.size + 1 + 1) rfl 48 hd (0, 0) _ RH1.out Tryd.underlying48 rfl hinfo ?_)
  refine (heard_any u l s0 s1 s2 s3 s4 s5 hd kind sub d a0 a1 a2 a3 a4 a5 e a H h0 h1 h2 h3 h4 h5 g0 g1 g2 g3 g4 g5 _).mono ?_
  rintro en w2 ⟨rfl, hb2⟩
  have hB2 : Below w.heap.size w w2 := hB1.trans (hb2.mono (by omega))
  have RN2 := Lib.hid (row_below hb2 (RN1.out))
  have RS2 := Lib.hid (row_below hb2 (RS1.out))
  have RH2 := Lib.hid (row_below hb2 (RH1.out))
  have hz2 := hb2.size
  (try simp only [World.size_alloc] at hz2)
  have y2 : w.heap.size + 1 + 1 < w2.heap.size := by omega
  clear hb2 hz2 RN1 RS1 RH1 y1
  clear n0w1 n1w1 t0w1 t1w1 t2w1 t3w1 t4w1 t5w1
  have n0w2 : w2.cell? ⟨w.heap.size, 0, none⟩ = some (.int .i64 u) := (cell_of_row _ _ _ _ _ _ RN2.out).trans rfl
  have n1w2 : w2.cell? ⟨w.heap.size, 1, none⟩ = some (.int .i64 l) := (cell_of_row _ _ _ _ _ _ RN2.out).trans rfl
  have t0w2 : w2.cell? ⟨w.heap.size + 1, 0, none⟩ = some (.int .u8 s0) := (cell_of_row _ _ _ _ _ _ RS2.out).trans rfl
  have t1w2 : w2.cell? ⟨w.heap.size + 1, 1, none⟩ = some (.int .u8 s1) := (cell_of_row _ _ _ _ _ _ RS2.out).trans rfl
  have t2w2 : w2.cell? ⟨w.heap.size + 1, 2, none⟩ = some (.int .u8 s2) := (cell_of_row _ _ _ _ _ _ RS2.out).trans rfl
  have t3w2 : w2.cell? ⟨w.heap.size + 1, 3, none⟩ = some (.int .u8 s3) := (cell_of_row _ _ _ _ _ _ RS2.out).trans rfl
  have t4w2 : w2.cell? ⟨w.heap.size + 1, 4, none⟩ = some (.int .u8 s4) := (cell_of_row _ _ _ _ _ _ RS2.out).trans rfl
  have t5w2 : w2.cell? ⟨w.heap.size + 1, 5, none⟩ = some (.int .u8 s5) := (cell_of_row _ _ _ _ _ _ RS2.out).trans rfl
  simp only [HE.out, HU.out, HL.out]
  go_wp2_with fail
  refine (earliest_all 0 0 i c hc _ (T.below hB2).alloc).mono ?_
  rintro en w3 ⟨rfl, hb3⟩
  have hB3 : Below w.heap.size w w3 := (hB2.alloc (by omega) _).trans (hb3.mono (by simp only [World.size_alloc]; omega))
  have RN3 := Lib.hid (row_below hb3 (row_alloc (RN2.out)))
  have RS3 := Lib.hid (row_below hb3 (row_alloc (RS2.out)))
  have RH3 := Lib.hid (row_below hb3 (row_alloc (RH2.out)))
  have RM3 := Lib.hid (row_below hb3 (heap_alloc_new w2 (.cells #[.int .i64 0, .int .i64 0] 23)))
  have hz3 := hb3.size
  (try simp only [World.size_alloc] at hz3)
  have y3 : w.heap.size + 1 + 1 < w3.heap.size := by omega
  have z3 : w2.heap.size < w3.heap.size := by omega
  clear hb3 hz3 RN2 RS2 RH2 y2
  clear n0w2 n1w2 t0w2 t1w2 t2w2 t3w2 t4w2 t5w2
  have n0w3 : w3.cell? ⟨w.heap.size, 0, none⟩ = some (.int .i64 u) := (cell_of_row _ _ _ _ _ _ RN3.out).trans rfl
  have n1w3 : w3.cell? ⟨w.heap.size, 1, none⟩ = some (.int .i64 l) := (cell_of_row _ _ _ _ _ _ RN3.out).trans rfl
  have t0w3 : w3.cell? ⟨w.heap.size + 1, 0, none⟩ = some (.int .u8 s0) := (cell_of_row _ _ _ _ _ _ RS3.out).trans rfl
  have t1w3 : w3.cell? ⟨w.heap.size + 1, 1, none⟩ = some (.int .u8 s1) := (cell_of_row _ _ _ _ _ _ RS3.out).trans rfl
  have t2w3 : w3.cell? ⟨w.heap.size + 1, 2, none⟩ = some (.int .u8 s2) := (cell_of_row _ _ _ _ _ _ RS3.out).trans rfl
  have t3w3 : w3.cell? ⟨w.heap.size + 1, 3, none⟩ = some (.int .u8 s3) := (cell_of_row _ _ _ _ _ _ RS3.out).trans rfl
  have t4w3 : w3.cell? ⟨w.heap.size + 1, 4, none⟩ = some (.int .u8 s4) := (cell_of_row _ _ _ _ _ _ RS3.out).trans rfl
  have t5w3 : w3.cell? ⟨w.heap.size + 1, 5, none⟩ = some (.int .u8 s5) := (cell_of_row _ _ _ _ _ _ RS3.out).trans rfl
  have m0w3 : w3.cell? ⟨w2.heap.size, 0, none⟩ = some (.int .i64 0) := (cell_of_row _ _ _ _ _ _ RM3.out).trans rfl
  have m1w3 : w3.cell? ⟨w2.heap.size, 1, none⟩ = some (.int .i64 0) := (cell_of_row _ _ _ _ _ _ RM3.out).trans rfl
  simp only [HF.out, HT.out]
  go_wp2_with fail
  refine (space_any c hc _ (T.below hB3)).mono ?_
  rintro en w4 ⟨rfl, hb4⟩
  have hB4 : Below w.heap.size w w4 := hB3.trans (hb4.mono (by omega))
  have RN4 := Lib.hid (row_below hb4 (RN3.out))
  have RS4 := Lib.hid (row_below hb4 (RS3.out))
  have RH4 := Lib.hid (row_below hb4 (RH3.out))
  have RM4 := Lib.hid (row_below hb4 (RM3.out))
  have hz4 := hb4.size
  (try simp only [World.size_alloc] at hz4)
  have y4 : w.heap.size + 1 + 1 < w4.heap.size := by omega
  have z4 : w2.heap.size < w4.heap.size := by omega
  clear hb4 hz4 RN3 RS3 RH3 y3 RM3 z3
  clear n0w3 n1w3 t0w3 t1w3 t2w3 t3w3 t4w3 t5w3 m0w3 m1w3
  have n0w4 : w4.cell? ⟨w.heap.size, 0, none⟩ = some (.int .i64 u) := (cell_of_row _ _ _ _ _ _ RN4.out).trans rfl
  have n1w4 : w4.cell? ⟨w.heap.size, 1, none⟩ = some (.int .i64 l) := (cell_of_row _ _ _ _ _ _ RN4.out).trans rfl
  have t0w4 : w4.cell? ⟨w.heap.size + 1, 0, none⟩ = some (.int .u8 s0) := (cell_of_row _ _ _ _ _ _ RS4.out).trans rfl
  have t1w4 : w4.cell? ⟨w.heap.size + 1, 1, none⟩ = some (.int .u8 s1) := (cell_of_row _ _ _ _ _ _ RS4.out).trans rfl
  have t2w4 : w4.cell? ⟨w.heap.size + 1, 2, none⟩ = some (.int .u8 s2) := (cell_of_row _ _ _ _ _ _ RS4.out).trans rfl
  have t3w4 : w4.cell? ⟨w.heap.size + 1, 3, none⟩ = some (.int .u8 s3) := (cell_of_row _ _ _ _ _ _ RS4.out).trans rfl
  have t4w4 : w4.cell? ⟨w.heap.size + 1, 4, none⟩ = some (.int .u8 s4) := (cell_of_row _ _ _ _ _ _ RS4.out).trans rfl
  have t5w4 : w4.cell? ⟨w.heap.size + 1, 5, none⟩ = some (.int .u8 s5) := (cell_of_row _ _ _ _ _ _ RS4.out).trans rfl
  have m0w4 : w4.cell? ⟨w2.heap.size, 0, none⟩ = some (.int .i64 0) := (cell_of_row _ _ _ _ _ _ RM4.out).trans rfl
  have m1w4 : w4.cell? ⟨w2.heap.size, 1, none⟩ = some (.int .i64 0) := (cell_of_row _ _ _ _ _ _ RM4.out).trans rfl
  simp only [HG.out, HS.out]
  go_wp2_with fail
  refine (until_all u l _).mono ?_
  rintro en w5 ⟨rfl, hb5⟩
  have hB5 : Below w.heap.size w w5 := hB4.trans (hb5.mono (by omega))
  have RN5 := Lib.hid (row_below hb5 (RN4.out))
  have RS5 := Lib.hid (row_below hb5 (RS4.out))
  have RH5 := Lib.hid (row_below hb5 (RH4.out))
  have RM5 := Lib.hid (row_below hb5 (RM4.out))
  have hz5 := hb5.size
  (try simp only [World.size_alloc] at hz5)
  have y5 : w.heap.size + 1 + 1 < w5.heap.size := by omega
  have z5 : w2.heap.size < w5.heap.size := by omega
  clear hb5 hz5 RN4 RS4 RH4 y4 RM4 z4
  clear n0w4 n1w4 t0w4 t1w4 t2w4 t3w4 t4w4 t5w4 m0w4 m1w4
  have n0w5 : w5.cell? ⟨w.heap.size, 0, none⟩ = some (.int .i64 u) := (cell_of_row _ _ _ _ _ _ RN5.out).trans rfl
  have n1w5 : w5.cell? ⟨w.heap.size, 1, none⟩ = some (.int .i64 l) := (cell_of_row _ _ _ _ _ _ RN5.out).trans rfl
  have t0w5 : w5.cell? ⟨w.heap.size + 1, 0, none⟩ = some (.int .u8 s0) := (cell_of_row _ _ _ _ _ _ RS5.out).trans rfl
  have t1w5 : w5.cell? ⟨w.heap.size + 1, 1, none⟩ = some (.int .u8 s1) := (cell_of_row _ _ _ _ _ _ RS5.out).trans rfl
  have t2w5 : w5.cell? ⟨w.heap.size + 1, 2, none⟩ = some (.int .u8 s2) := (cell_of_row _ _ _ _ _ _ RS5.out).trans rfl
  have t3w5 : w5.cell? ⟨w.heap.size + 1, 3, none⟩ = some (.int .u8 s3) := (cell_of_row _ _ _ _ _ _ RS5.out).trans rfl
  have t4w5 : w5.cell? ⟨w.heap.size + 1, 4, none⟩ = some (.int .u8 s4) := (cell_of_row _ _ _ _ _ _ RS5.out).trans rfl
  have t5w5 : w5.cell? ⟨w.heap.size + 1, 5, none⟩ = some (.int .u8 s5) := (cell_of_row _ _ _ _ _ _ RS5.out).trans rfl
  have m0w5 : w5.cell? ⟨w2.heap.size, 0, none⟩ = some (.int .i64 0) := (cell_of_row _ _ _ _ _ _ RM5.out).trans rfl
  have m1w5 : w5.cell? ⟨w2.heap.size, 1, none⟩ = some (.int .i64 0) := (cell_of_row _ _ _ _ _ _ RM5.out).trans rfl
  simp only [HV.out, HX.out]
  go_wp2
  all_goals go_ret
  all_goals exact ⟨rfl, hB5⟩
set_option maxHeartbeats 8000000 in
set_option maxRecDepth 100000 in
theorem keeps_bad8 (u l s0 s1 s2 s3 s4 s5 : Int) (hd : Array Value) (kind sub d a0 a1 a2 a3 a4 a5 e a i c : Int) (H : Head hd kind sub d a0 a1 a2 a3 a4 a5) (h0 : 0 ≤ a0 ∧ a0 ≤ 255) (h1 : 0 ≤ a1 ∧ a1 ≤ 255) (h2 : 0 ≤ a2 ∧ a2 ≤ 255) (h3 : 0 ≤ a3 ∧ a3 ≤ 255) (h4 : 0 ≤ a4 ∧ a4 ≤ 255) (h5 : 0 ≤ a5 ∧ a5 ≤ 255) (g0 : 0 ≤ s0 ∧ s0 ≤ 255) (g1 : 0 ≤ s1 ∧ s1 ≤ 255) (g2 : 0 ≤ s2 ∧ s2 ≤ 255) (g3 : 0 ≤ s3 ∧ s3 ≤ 255) (g4 : 0 ≤ s4 ∧ s4 ≤ 255) (g5 : 0 ≤ s5 ∧ s5 ≤ 255) (hsz : hd.size = 40) (hc : 0 ≤ c ∧ c ≤ 255) (hbad : hE u l e d a = 8) 
    (w : World) (T : Tab w) (O : Oth w) :
    Calls Tryd.prog 5 #[.agg #[.int .i64 u, .int .i64 l], .agg #[.int .u8 s0, .int .u8 s1, .int .u8 s2, .int .u8 s3, .int .u8 s4, .int .u8 s5], .agg hd, .int .i64 e, .int .i64 a, .int .i64 i, .int .u8 c] w fun en w' => en = .returned (.bool true) ∧ Below w.heap.size w w' := by
  obtain ⟨e1, e2⟩ := h_bad u l e d a (addrB a0 a1 a2 a3 a4 a5 s0 s1 s2 s3 s4 s5) (reqB kind sub) (by rw [hbad]; decide)
  obtain ⟨f, hf⟩ : ∃ x, earE 0 0 i c = x := ⟨_, rfl⟩
  obtain ⟨t, ht⟩ : ∃ x, earN 0 0 i c = x := ⟨_, rfl⟩
  obtain ⟨g, hg⟩ : ∃ x, spaceE c = x := ⟨_, rfl⟩
  obtain ⟨s, hs⟩ : ∃ x, spaceN c = x := ⟨_, rfl⟩
  obtain ⟨v, hv⟩ : ∃ x, navE u l = x := ⟨_, rfl⟩
  obtain ⟨x, hx⟩ : ∃ x, untN u l = x := ⟨_, rfl⟩
  have HE := Lib.hid (show hE u l e d a = 8 from hbad)
  have HU := Lib.hid (show hU u l e d a (addrB a0 a1 a2 a3 a4 a5 s0 s1 s2 s3 s4 s5) = 0 from e1)
  have HL := Lib.hid (show hL u l e d a (addrB a0 a1 a2 a3 a4 a5 s0 s1 s2 s3 s4 s5) (reqB kind sub) = 0 from e2)
  have HF := Lib.hid (show earE 0 0 i c = f from hf)
  have HT := Lib.hid (show earN 0 0 i c = t from ht)
  have HG := Lib.hid (show spaceE c = g from hg)
  have HS := Lib.hid (show spaceN c = s from hs)
  have HV := Lib.hid (show navE u l = v from hv)
  have HX := Lib.hid (show untN u l = x from hx)
  clear hbad e1 e2 hf ht hg hs hv hx
  have hinfo : (Tryd.prog.info? 48).map (·.size) = some hd.size := by rw [hsz]; kernel_rfl
  clear hsz
  obtain ⟨rn, rs, rh⟩ := fr_rows3 w (.cells #[.int .i64 u, .int .i64 l] 23) (.cells #[.int .u8 s0, .int .u8 s1, .int .u8 s2, .int .u8 s3, .int .u8 s4, .int .u8 s5] 46) (.cells hd 48)
  have RN := Lib.hid rn
  have RS := Lib.hid rs
  have RH := Lib.hid rh
  clear rn rs rh
  go_enter Tryd.func5, Tryd.ntmps5
  go_wp2_with fail
  refine (alive_any _ T.alloc.alloc.alloc O.alloc.alloc.alloc).mono ?_
  rintro en w1 ⟨rfl, hb1⟩
  have hB1 : Below w.heap.size w w1 := ((((Below.refl _ _).alloc (Nat.le_refl _) _).alloc (by simp) _).alloc (by simp only [World.size_alloc]; omega) _).trans (hb1.mono (by simp only [World.size_alloc]; omega))
  have hz1 := hb1.size
  simp only [World.size_alloc] at hz1
  have RN1 := Lib.hid (row_below hb1 RN.out)
  have RS1 := Lib.hid (row_below hb1 RS.out)
  have RH1 := Lib.hid (row_below hb1 RH.out)
  have y1 : w.heap.size + 1 + 1 < w1.heap.size := by omega
  clear hb1 RN RS RH hz1
  have n0w1 : w1.cell? ⟨w.heap.size, 0, none⟩ = some (.int .i64 u) := (cell_of_row _ _ _ _ _ _ RN1.out).trans rfl
  have n1w1 : w1.cell? ⟨w.heap.size, 1, none⟩ = some (.int .i64 l) := (cell_of_row _ _ _ _ _ _ RN1.out).trans rfl
  have t0w1 : w1.cell? ⟨w.heap.size + 1, 0, none⟩ = some (.int .u8 s0) := (cell_of_row _ _ _ _ _ _ RS1.out).trans rfl
  have t1w1 : w1.cell? ⟨w.heap.size + 1, 1, none⟩ = some (.int .u8 s1) := (cell_of_row _ _ _ _ _ _ RS1.out).trans rfl
  have t2w1 : w1.cell? ⟨w.heap.size + 1, 2, none⟩ = some (.int .u8 s2) := (cell_of_row _ _ _ _ _ _ RS1.out).trans rfl
  have t3w1 : w1.cell? ⟨w.heap.size + 1, 3, none⟩ = some (.int .u8 s3) := (cell_of_row _ _ _ _ _ _ RS1.out).trans rfl
  have t4w1 : w1.cell? ⟨w.heap.size + 1, 4, none⟩ = some (.int .u8 s4) := (cell_of_row _ _ _ _ _ _ RS1.out).trans rfl
  have t5w1 : w1.cell? ⟨w.heap.size + 1, 5, none⟩ = some (.int .u8 s5) := (cell_of_row _ _ _ _ _ _ RS1.out).trans rfl
  go_wp2_with (with_reducible refine wpList_load_row rfl 48 (.tmp 9) rfl (w.heap.size + 1 + 1) rfl 48 hd (0, 0) _ RH1.out Tryd.underlying48 rfl hinfo ?_)
  refine (heard_any u l s0 s1 s2 s3 s4 s5 hd kind sub d a0 a1 a2 a3 a4 a5 e a H h0 h1 h2 h3 h4 h5 g0 g1 g2 g3 g4 g5 _).mono ?_
  rintro en w2 ⟨rfl, hb2⟩
  have hB2 : Below w.heap.size w w2 := hB1.trans (hb2.mono (by omega))
  have RN2 := Lib.hid (row_below hb2 (RN1.out))
  have RS2 := Lib.hid (row_below hb2 (RS1.out))
  have RH2 := Lib.hid (row_below hb2 (RH1.out))
  have hz2 := hb2.size
  (try simp only [World.size_alloc] at hz2)
  have y2 : w.heap.size + 1 + 1 < w2.heap.size := by omega
  clear hb2 hz2 RN1 RS1 RH1 y1
  clear n0w1 n1w1 t0w1 t1w1 t2w1 t3w1 t4w1 t5w1
  have n0w2 : w2.cell? ⟨w.heap.size, 0, none⟩ = some (.int .i64 u) := (cell_of_row _ _ _ _ _ _ RN2.out).trans rfl
  have n1w2 : w2.cell? ⟨w.heap.size, 1, none⟩ = some (.int .i64 l) := (cell_of_row _ _ _ _ _ _ RN2.out).trans rfl
  have t0w2 : w2.cell? ⟨w.heap.size + 1, 0, none⟩ = some (.int .u8 s0) := (cell_of_row _ _ _ _ _ _ RS2.out).trans rfl
  have t1w2 : w2.cell? ⟨w.heap.size + 1, 1, none⟩ = some (.int .u8 s1) := (cell_of_row _ _ _ _ _ _ RS2.out).trans rfl
  have t2w2 : w2.cell? ⟨w.heap.size + 1, 2, none⟩ = some (.int .u8 s2) := (cell_of_row _ _ _ _ _ _ RS2.out).trans rfl
  have t3w2 : w2.cell? ⟨w.heap.size + 1, 3, none⟩ = some (.int .u8 s3) := (cell_of_row _ _ _ _ _ _ RS2.out).trans rfl
  have t4w2 : w2.cell? ⟨w.heap.size + 1, 4, none⟩ = some (.int .u8 s4) := (cell_of_row _ _ _ _ _ _ RS2.out).trans rfl
  have t5w2 : w2.cell? ⟨w.heap.size + 1, 5, none⟩ = some (.int .u8 s5) := (cell_of_row _ _ _ _ _ _ RS2.out).trans rfl
  simp only [HE.out, HU.out, HL.out]
  go_wp2_with fail
  refine (earliest_all 0 0 i c hc _ (T.below hB2).alloc).mono ?_
  rintro en w3 ⟨rfl, hb3⟩
  have hB3 : Below w.heap.size w w3 := (hB2.alloc (by omega) _).trans (hb3.mono (by simp only [World.size_alloc]; omega))
  have RN3 := Lib.hid (row_below hb3 (row_alloc (RN2.out)))
  have RS3 := Lib.hid (row_below hb3 (row_alloc (RS2.out)))
  have RH3 := Lib.hid (row_below hb3 (row_alloc (RH2.out)))
  have RM3 := Lib.hid (row_below hb3 (heap_alloc_new w2 (.cells #[.int .i64 0, .int .i64 0] 23)))
  have hz3 := hb3.size
  (try simp only [World.size_alloc] at hz3)
  have y3 : w.heap.size + 1 + 1 < w3.heap.size := by omega
  have z3 : w2.heap.size < w3.heap.size := by omega
  clear hb3 hz3 RN2 RS2 RH2 y2
  clear n0w2 n1w2 t0w2 t1w2 t2w2 t3w2 t4w2 t5w2
  have n0w3 : w3.cell? ⟨w.heap.size, 0, none⟩ = some (.int .i64 u) := (cell_of_row _ _ _ _ _ _ RN3.out).trans rfl
  have n1w3 : w3.cell? ⟨w.heap.size, 1, none⟩ = some (.int .i64 l) := (cell_of_row _ _ _ _ _ _ RN3.out).trans rfl
  have t0w3 : w3.cell? ⟨w.heap.size + 1, 0, none⟩ = some (.int .u8 s0) := (cell_of_row _ _ _ _ _ _ RS3.out).trans rfl
  have t1w3 : w3.cell? ⟨w.heap.size + 1, 1, none⟩ = some (.int .u8 s1) := (cell_of_row _ _ _ _ _ _ RS3.out).trans rfl
  have t2w3 : w3.cell? ⟨w.heap.size + 1, 2, none⟩ = some (.int .u8 s2) := (cell_of_row _ _ _ _ _ _ RS3.out).trans rfl
  have t3w3 : w3.cell? ⟨w.heap.size + 1, 3, none⟩ = some (.int .u8 s3) := (cell_of_row _ _ _ _ _ _ RS3.out).trans rfl
  have t4w3 : w3.cell? ⟨w.heap.size + 1, 4, none⟩ = some (.int .u8 s4) := (cell_of_row _ _ _ _ _ _ RS3.out).trans rfl
  have t5w3 : w3.cell? ⟨w.heap.size + 1, 5, none⟩ = some (.int .u8 s5) := (cell_of_row _ _ _ _ _ _ RS3.out).trans rfl
  have m0w3 : w3.cell? ⟨w2.heap.size, 0, none⟩ = some (.int .i64 0) := (cell_of_row _ _ _ _ _ _ RM3.out).trans rfl
  have m1w3 : w3.cell? ⟨w2.heap.size, 1, none⟩ = some (.int .i64 0) := (cell_of_row _ _ _ _ _ _ RM3.out).trans rfl
  simp only [HF.out, HT.out]
  go_wp2_with fail
  refine (space_any c hc _ (T.below hB3)).mono ?_
  rintro en w4 ⟨rfl, hb4⟩
  have hB4 : Below w.heap.size w w4 := hB3.trans (hb4.mono (by omega))
  have RN4 := Lib.hid (row_below hb4 (RN3.out))
  have RS4 := Lib.hid (row_below hb4 (RS3.out))
  have RH4 := Lib.hid (row_below hb4 (RH3.out))
  have RM4 := Lib.hid (row_below hb4 (RM3.out))
  have hz4 := hb4.size
  (try simp only [World.size_alloc] at hz4)
  have y4 : w.heap.size + 1 + 1 < w4.heap.size := by omega
  have z4 : w2.heap.size < w4.heap.size := by omega
  clear hb4 hz4 RN3 RS3 RH3 y3 RM3 z3
  clear n0w3 n1w3 t0w3 t1w3 t2w3 t3w3 t4w3 t5w3 m0w3 m1w3
  have n0w4 : w4.cell? ⟨w.heap.size, 0, none⟩ = some (.int .i64 u) := (cell_of_row _ _ _ _ _ _ RN4.out).trans rfl
  have n1w4 : w4.cell? ⟨w.heap.size, 1, none⟩ = some (.int .i64 l) := (cell_of_row _ _ _ _ _ _ RN4.out).trans rfl
  have t0w4 : w4.cell? ⟨w.heap.size + 1, 0, none⟩ = some (.int .u8 s0) := (cell_of_row _ _ _ _ _ _ RS4.out).trans rfl
  have t1w4 : w4.cell? ⟨w.heap.size + 1, 1, none⟩ = some (.int .u8 s1) := (cell_of_row _ _ _ _ _ _ RS4.out).trans rfl
  have t2w4 : w4.cell? ⟨w.heap.size + 1, 2, none⟩ = some (.int .u8 s2) := (cell_of_row _ _ _ _ _ _ RS4.out).trans rfl
  have t3w4 : w4.cell? ⟨w.heap.size + 1, 3, none⟩ = some (.int .u8 s3) := (cell_of_row _ _ _ _ _ _ RS4.out).trans rfl
  have t4w4 : w4.cell? ⟨w.heap.size + 1, 4, none⟩ = some (.int .u8 s4) := (cell_of_row _ _ _ _ _ _ RS4.out).trans rfl
  have t5w4 : w4.cell? ⟨w.heap.size + 1, 5, none⟩ = some (.int .u8 s5) := (cell_of_row _ _ _ _ _ _ RS4.out).trans rfl
  have m0w4 : w4.cell? ⟨w2.heap.size, 0, none⟩ = some (.int .i64 0) := (cell_of_row _ _ _ _ _ _ RM4.out).trans rfl
  have m1w4 : w4.cell? ⟨w2.heap.size, 1, none⟩ = some (.int .i64 0) := (cell_of_row _ _ _ _ _ _ RM4.out).trans rfl
  simp only [HG.out, HS.out]
  go_wp2_with fail
  refine (until_all u l _).mono ?_
  rintro en w5 ⟨rfl, hb5⟩
  have hB5 : Below w.heap.size w w5 := hB4.trans (hb5.mono (by omega))
  have RN5 := Lib.hid (row_below hb5 (RN4.out))
  have RS5 := Lib.hid (row_below hb5 (RS4.out))
  have RH5 := Lib.hid (row_below hb5 (RH4.out))
  have RM5 := Lib.hid (row_below hb5 (RM4.out))
  have hz5 := hb5.size
  (try simp only [World.size_alloc] at hz5)
  have y5 : w.heap.size + 1 + 1 < w5.heap.size := by omega
  have z5 : w2.heap.size < w5.heap.size := by omega
  clear hb5 hz5 RN4 RS4 RH4 y4 RM4 z4
  clear n0w4 n1w4 t0w4 t1w4 t2w4 t3w4 t4w4 t5w4 m0w4 m1w4
  have n0w5 : w5.cell? ⟨w.heap.size, 0, none⟩ = some (.int .i64 u) := (cell_of_row _ _ _ _ _ _ RN5.out).trans rfl
  have n1w5 : w5.cell? ⟨w.heap.size, 1, none⟩ = some (.int .i64 l) := (cell_of_row _ _ _ _ _ _ RN5.out).trans rfl
  have t0w5 : w5.cell? ⟨w.heap.size + 1, 0, none⟩ = some (.int .u8 s0) := (cell_of_row _ _ _ _ _ _ RS5.out).trans rfl
  have t1w5 : w5.cell? ⟨w.heap.size + 1, 1, none⟩ = some (.int .u8 s1) := (cell_of_row _ _ _ _ _ _ RS5.out).trans rfl
  have t2w5 : w5.cell? ⟨w.heap.size + 1, 2, none⟩ = some (.int .u8 s2) := (cell_of_row _ _ _ _ _ _ RS5.out).trans rfl
  have t3w5 : w5.cell? ⟨w.heap.size + 1, 3, none⟩ = some (.int .u8 s3) := (cell_of_row _ _ _ _ _ _ RS5.out).trans rfl
  have t4w5 : w5.cell? ⟨w.heap.size + 1, 4, none⟩ = some (.int .u8 s4) := (cell_of_row _ _ _ _ _ _ RS5.out).trans rfl
  have t5w5 : w5.cell? ⟨w.heap.size + 1, 5, none⟩ = some (.int .u8 s5) := (cell_of_row _ _ _ _ _ _ RS5.out).trans rfl
  have m0w5 : w5.cell? ⟨w2.heap.size, 0, none⟩ = some (.int .i64 0) := (cell_of_row _ _ _ _ _ _ RM5.out).trans rfl
  have m1w5 : w5.cell? ⟨w2.heap.size, 1, none⟩ = some (.int .i64 0) := (cell_of_row _ _ _ _ _ _ RM5.out).trans rfl
  simp only [HV.out, HX.out]
  go_wp2
  all_goals go_ret
  all_goals exact ⟨rfl, hB5⟩
set_option maxHeartbeats 8000000 in
set_option maxRecDepth 100000 in
theorem keeps_late2 (u l s0 s1 s2 s3 s4 s5 : Int) (hd : Array Value) (kind sub d a0 a1 a2 a3 a4 a5 e a i c : Int) (H : Head hd kind sub d a0 a1 a2 a3 a4 a5) (h0 : 0 ≤ a0 ∧ a0 ≤ 255) (h1 : 0 ≤ a1 ∧ a1 ≤ 255) (h2 : 0 ≤ a2 ∧ a2 ≤ 255) (h3 : 0 ≤ a3 ∧ a3 ≤ 255) (h4 : 0 ≤ a4 ∧ a4 ≤ 255) (h5 : 0 ≤ a5 ∧ a5 ≤ 255) (g0 : 0 ≤ s0 ∧ s0 ≤ 255) (g1 : 0 ≤ s1 ∧ s1 ≤ 255) (g2 : 0 ≤ s2 ∧ s2 ≤ 255) (g3 : 0 ≤ s3 ∧ s3 ≤ 255) (g4 : 0 ≤ s4 ∧ s4 ≤ 255) (g5 : 0 ≤ s5 ∧ s5 ≤ 255) (hsz : hd.size = 40) (hc : 0 ≤ c ∧ c ≤ 255) (hok : hE u l e d a = 0) (hf : earE (hU u l e d a (addrB a0 a1 a2 a3 a4 a5 s0 s1 s2 s3 s4 s5)) (hL u l e d a (addrB a0 a1 a2 a3 a4 a5 s0 s1 s2 s3 s4 s5) (reqB kind sub)) i c = 2) 
    (w : World) (T : Tab w) (O : Oth w) :
    Calls Tryd.prog 5 #[.agg #[.int .i64 u, .int .i64 l], .agg #[.int .u8 s0, .int .u8 s1, .int .u8 s2, .int .u8 s3, .int .u8 s4, .int .u8 s5], .agg hd, .int .i64 e, .int .i64 a, .int .i64 i, .int .u8 c] w fun en w' => en = .returned (.bool true) ∧ Below w.heap.size w w' := by
  obtain ⟨p, hp⟩ : ∃ x, hU u l e d a (addrB a0 a1 a2 a3 a4 a5 s0 s1 s2 s3 s4 s5) = x := ⟨_, rfl⟩
  obtain ⟨q, hq⟩ : ∃ x, hL u l e d a (addrB a0 a1 a2 a3 a4 a5 s0 s1 s2 s3 s4 s5) (reqB kind sub) = x := ⟨_, rfl⟩
  rw [hp, hq] at hf
  obtain ⟨t, ht⟩ : ∃ x, earN p q i c = x := ⟨_, rfl⟩
  obtain ⟨g, hg⟩ : ∃ x, spaceE c = x := ⟨_, rfl⟩
  obtain ⟨s, hs⟩ : ∃ x, spaceN c = x := ⟨_, rfl⟩
  obtain ⟨v, hv⟩ : ∃ x, navE u l = x := ⟨_, rfl⟩
  obtain ⟨x, hx⟩ : ∃ x, untN u l = x := ⟨_, rfl⟩
  have HE := Lib.hid (show hE u l e d a = 0 from hok)
  have HU := Lib.hid (show hU u l e d a (addrB a0 a1 a2 a3 a4 a5 s0 s1 s2 s3 s4 s5) = p from hp)
  have HL := Lib.hid (show hL u l e d a (addrB a0 a1 a2 a3 a4 a5 s0 s1 s2 s3 s4 s5) (reqB kind sub) = q from hq)
  have HF := Lib.hid (show earE p q i c = 2 from hf)
  have HT := Lib.hid (show earN p q i c = t from ht)
  have HG := Lib.hid (show spaceE c = g from hg)
  have HS := Lib.hid (show spaceN c = s from hs)
  have HV := Lib.hid (show navE u l = v from hv)
  have HX := Lib.hid (show untN u l = x from hx)
  clear hok hp hq hf ht hg hs hv hx
  have hinfo : (Tryd.prog.info? 48).map (·.size) = some hd.size := by rw [hsz]; kernel_rfl
  clear hsz
  obtain ⟨rn, rs, rh⟩ := fr_rows3 w (.cells #[.int .i64 u, .int .i64 l] 23) (.cells #[.int .u8 s0, .int .u8 s1, .int .u8 s2, .int .u8 s3, .int .u8 s4, .int .u8 s5] 46) (.cells hd 48)
  have RN := Lib.hid rn
  have RS := Lib.hid rs
  have RH := Lib.hid rh
  clear rn rs rh
  go_enter Tryd.func5, Tryd.ntmps5
  go_wp2_with fail
  refine (alive_any _ T.alloc.alloc.alloc O.alloc.alloc.alloc).mono ?_
  rintro en w1 ⟨rfl, hb1⟩
  have hB1 : Below w.heap.size w w1 := ((((Below.refl _ _).alloc (Nat.le_refl _) _).alloc (by simp) _).alloc (by simp only [World.size_alloc]; omega) _).trans (hb1.mono (by simp only [World.size_alloc]; omega))
  have hz1 := hb1.size
  simp only [World.size_alloc] at hz1
  have RN1 := Lib.hid (row_below hb1 RN.out)
  have RS1 := Lib.hid (row_below hb1 RS.out)
  have RH1 := Lib.hid (row_below hb1 RH.out)
  have y1 : w.heap.size + 1 + 1 < w1.heap.size := by omega
  clear hb1 RN RS RH hz1
  have n0w1 : w1.cell? ⟨w.heap.size, 0, none⟩ = some (.int .i64 u) := (cell_of_row _ _ _ _ _ _ RN1.out).trans rfl
  have n1w1 : w1.cell? ⟨w.heap.size, 1, none⟩ = some (.int .i64 l) := (cell_of_row _ _ _ _ _ _ RN1.out).trans rfl
  have t0w1 : w1.cell? ⟨w.heap.size + 1, 0, none⟩ = some (.int .u8 s0) := (cell_of_row _ _ _ _ _ _ RS1.out).trans rfl
  have t1w1 : w1.cell? ⟨w.heap.size + 1, 1, none⟩ = some (.int .u8 s1) := (cell_of_row _ _ _ _ _ _ RS1.out).trans rfl
  have t2w1 : w1.cell? ⟨w.heap.size + 1, 2, none⟩ = some (.int .u8 s2) := (cell_of_row _ _ _ _ _ _ RS1.out).trans rfl
  have t3w1 : w1.cell? ⟨w.heap.size + 1, 3, none⟩ = some (.int .u8 s3) := (cell_of_row _ _ _ _ _ _ RS1.out).trans rfl
  have t4w1 : w1.cell? ⟨w.heap.size + 1, 4, none⟩ = some (.int .u8 s4) := (cell_of_row _ _ _ _ _ _ RS1.out).trans rfl
  have t5w1 : w1.cell? ⟨w.heap.size + 1, 5, none⟩ = some (.int .u8 s5) := (cell_of_row _ _ _ _ _ _ RS1.out).trans rfl
  go_wp2_with (with_reducible refine wpList_load_row rfl 48 (.tmp 9) rfl (w.heap.size + 1 + 1) rfl 48 hd (0, 0) _ RH1.out Tryd.underlying48 rfl hinfo ?_)
  refine (heard_any u l s0 s1 s2 s3 s4 s5 hd kind sub d a0 a1 a2 a3 a4 a5 e a H h0 h1 h2 h3 h4 h5 g0 g1 g2 g3 g4 g5 _).mono ?_
  rintro en w2 ⟨rfl, hb2⟩
  have hB2 : Below w.heap.size w w2 := hB1.trans (hb2.mono (by omega))
  have RN2 := Lib.hid (row_below hb2 (RN1.out))
  have RS2 := Lib.hid (row_below hb2 (RS1.out))
  have RH2 := Lib.hid (row_below hb2 (RH1.out))
  have hz2 := hb2.size
  (try simp only [World.size_alloc] at hz2)
  have y2 : w.heap.size + 1 + 1 < w2.heap.size := by omega
  clear hb2 hz2 RN1 RS1 RH1 y1
  clear n0w1 n1w1 t0w1 t1w1 t2w1 t3w1 t4w1 t5w1
  have n0w2 : w2.cell? ⟨w.heap.size, 0, none⟩ = some (.int .i64 u) := (cell_of_row _ _ _ _ _ _ RN2.out).trans rfl
  have n1w2 : w2.cell? ⟨w.heap.size, 1, none⟩ = some (.int .i64 l) := (cell_of_row _ _ _ _ _ _ RN2.out).trans rfl
  have t0w2 : w2.cell? ⟨w.heap.size + 1, 0, none⟩ = some (.int .u8 s0) := (cell_of_row _ _ _ _ _ _ RS2.out).trans rfl
  have t1w2 : w2.cell? ⟨w.heap.size + 1, 1, none⟩ = some (.int .u8 s1) := (cell_of_row _ _ _ _ _ _ RS2.out).trans rfl
  have t2w2 : w2.cell? ⟨w.heap.size + 1, 2, none⟩ = some (.int .u8 s2) := (cell_of_row _ _ _ _ _ _ RS2.out).trans rfl
  have t3w2 : w2.cell? ⟨w.heap.size + 1, 3, none⟩ = some (.int .u8 s3) := (cell_of_row _ _ _ _ _ _ RS2.out).trans rfl
  have t4w2 : w2.cell? ⟨w.heap.size + 1, 4, none⟩ = some (.int .u8 s4) := (cell_of_row _ _ _ _ _ _ RS2.out).trans rfl
  have t5w2 : w2.cell? ⟨w.heap.size + 1, 5, none⟩ = some (.int .u8 s5) := (cell_of_row _ _ _ _ _ _ RS2.out).trans rfl
  simp only [HE.out, HU.out, HL.out]
  go_wp2_with fail
  refine (earliest_all p q i c hc _ (T.below hB2).alloc).mono ?_
  rintro en w3 ⟨rfl, hb3⟩
  have hB3 : Below w.heap.size w w3 := (hB2.alloc (by omega) _).trans (hb3.mono (by simp only [World.size_alloc]; omega))
  have RN3 := Lib.hid (row_below hb3 (row_alloc (RN2.out)))
  have RS3 := Lib.hid (row_below hb3 (row_alloc (RS2.out)))
  have RH3 := Lib.hid (row_below hb3 (row_alloc (RH2.out)))
  have RM3 := Lib.hid (row_below hb3 (heap_alloc_new w2 (.cells #[.int .i64 p, .int .i64 q] 23)))
  have hz3 := hb3.size
  (try simp only [World.size_alloc] at hz3)
  have y3 : w.heap.size + 1 + 1 < w3.heap.size := by omega
  have z3 : w2.heap.size < w3.heap.size := by omega
  clear hb3 hz3 RN2 RS2 RH2 y2
  clear n0w2 n1w2 t0w2 t1w2 t2w2 t3w2 t4w2 t5w2
  have n0w3 : w3.cell? ⟨w.heap.size, 0, none⟩ = some (.int .i64 u) := (cell_of_row _ _ _ _ _ _ RN3.out).trans rfl
  have n1w3 : w3.cell? ⟨w.heap.size, 1, none⟩ = some (.int .i64 l) := (cell_of_row _ _ _ _ _ _ RN3.out).trans rfl
  have t0w3 : w3.cell? ⟨w.heap.size + 1, 0, none⟩ = some (.int .u8 s0) := (cell_of_row _ _ _ _ _ _ RS3.out).trans rfl
  have t1w3 : w3.cell? ⟨w.heap.size + 1, 1, none⟩ = some (.int .u8 s1) := (cell_of_row _ _ _ _ _ _ RS3.out).trans rfl
  have t2w3 : w3.cell? ⟨w.heap.size + 1, 2, none⟩ = some (.int .u8 s2) := (cell_of_row _ _ _ _ _ _ RS3.out).trans rfl
  have t3w3 : w3.cell? ⟨w.heap.size + 1, 3, none⟩ = some (.int .u8 s3) := (cell_of_row _ _ _ _ _ _ RS3.out).trans rfl
  have t4w3 : w3.cell? ⟨w.heap.size + 1, 4, none⟩ = some (.int .u8 s4) := (cell_of_row _ _ _ _ _ _ RS3.out).trans rfl
  have t5w3 : w3.cell? ⟨w.heap.size + 1, 5, none⟩ = some (.int .u8 s5) := (cell_of_row _ _ _ _ _ _ RS3.out).trans rfl
  have m0w3 : w3.cell? ⟨w2.heap.size, 0, none⟩ = some (.int .i64 p) := (cell_of_row _ _ _ _ _ _ RM3.out).trans rfl
  have m1w3 : w3.cell? ⟨w2.heap.size, 1, none⟩ = some (.int .i64 q) := (cell_of_row _ _ _ _ _ _ RM3.out).trans rfl
  simp only [HF.out, HT.out]
  go_wp2_with fail
  refine (space_any c hc _ (T.below hB3)).mono ?_
  rintro en w4 ⟨rfl, hb4⟩
  have hB4 : Below w.heap.size w w4 := hB3.trans (hb4.mono (by omega))
  have RN4 := Lib.hid (row_below hb4 (RN3.out))
  have RS4 := Lib.hid (row_below hb4 (RS3.out))
  have RH4 := Lib.hid (row_below hb4 (RH3.out))
  have RM4 := Lib.hid (row_below hb4 (RM3.out))
  have hz4 := hb4.size
  (try simp only [World.size_alloc] at hz4)
  have y4 : w.heap.size + 1 + 1 < w4.heap.size := by omega
  have z4 : w2.heap.size < w4.heap.size := by omega
  clear hb4 hz4 RN3 RS3 RH3 y3 RM3 z3
  clear n0w3 n1w3 t0w3 t1w3 t2w3 t3w3 t4w3 t5w3 m0w3 m1w3
  have n0w4 : w4.cell? ⟨w.heap.size, 0, none⟩ = some (.int .i64 u) := (cell_of_row _ _ _ _ _ _ RN4.out).trans rfl
  have n1w4 : w4.cell? ⟨w.heap.size, 1, none⟩ = some (.int .i64 l) := (cell_of_row _ _ _ _ _ _ RN4.out).trans rfl
  have t0w4 : w4.cell? ⟨w.heap.size + 1, 0, none⟩ = some (.int .u8 s0) := (cell_of_row _ _ _ _ _ _ RS4.out).trans rfl
  have t1w4 : w4.cell? ⟨w.heap.size + 1, 1, none⟩ = some (.int .u8 s1) := (cell_of_row _ _ _ _ _ _ RS4.out).trans rfl
  have t2w4 : w4.cell? ⟨w.heap.size + 1, 2, none⟩ = some (.int .u8 s2) := (cell_of_row _ _ _ _ _ _ RS4.out).trans rfl
  have t3w4 : w4.cell? ⟨w.heap.size + 1, 3, none⟩ = some (.int .u8 s3) := (cell_of_row _ _ _ _ _ _ RS4.out).trans rfl
  have t4w4 : w4.cell? ⟨w.heap.size + 1, 4, none⟩ = some (.int .u8 s4) := (cell_of_row _ _ _ _ _ _ RS4.out).trans rfl
  have t5w4 : w4.cell? ⟨w.heap.size + 1, 5, none⟩ = some (.int .u8 s5) := (cell_of_row _ _ _ _ _ _ RS4.out).trans rfl
  have m0w4 : w4.cell? ⟨w2.heap.size, 0, none⟩ = some (.int .i64 p) := (cell_of_row _ _ _ _ _ _ RM4.out).trans rfl
  have m1w4 : w4.cell? ⟨w2.heap.size, 1, none⟩ = some (.int .i64 q) := (cell_of_row _ _ _ _ _ _ RM4.out).trans rfl
  simp only [HG.out, HS.out]
  go_wp2_with fail
  refine (until_all u l _).mono ?_
  rintro en w5 ⟨rfl, hb5⟩
  have hB5 : Below w.heap.size w w5 := hB4.trans (hb5.mono (by omega))
  have RN5 := Lib.hid (row_below hb5 (RN4.out))
  have RS5 := Lib.hid (row_below hb5 (RS4.out))
  have RH5 := Lib.hid (row_below hb5 (RH4.out))
  have RM5 := Lib.hid (row_below hb5 (RM4.out))
  have hz5 := hb5.size
  (try simp only [World.size_alloc] at hz5)
  have y5 : w.heap.size + 1 + 1 < w5.heap.size := by omega
  have z5 : w2.heap.size < w5.heap.size := by omega
  clear hb5 hz5 RN4 RS4 RH4 y4 RM4 z4
  clear n0w4 n1w4 t0w4 t1w4 t2w4 t3w4 t4w4 t5w4 m0w4 m1w4
  have n0w5 : w5.cell? ⟨w.heap.size, 0, none⟩ = some (.int .i64 u) := (cell_of_row _ _ _ _ _ _ RN5.out).trans rfl
  have n1w5 : w5.cell? ⟨w.heap.size, 1, none⟩ = some (.int .i64 l) := (cell_of_row _ _ _ _ _ _ RN5.out).trans rfl
  have t0w5 : w5.cell? ⟨w.heap.size + 1, 0, none⟩ = some (.int .u8 s0) := (cell_of_row _ _ _ _ _ _ RS5.out).trans rfl
  have t1w5 : w5.cell? ⟨w.heap.size + 1, 1, none⟩ = some (.int .u8 s1) := (cell_of_row _ _ _ _ _ _ RS5.out).trans rfl
  have t2w5 : w5.cell? ⟨w.heap.size + 1, 2, none⟩ = some (.int .u8 s2) := (cell_of_row _ _ _ _ _ _ RS5.out).trans rfl
  have t3w5 : w5.cell? ⟨w.heap.size + 1, 3, none⟩ = some (.int .u8 s3) := (cell_of_row _ _ _ _ _ _ RS5.out).trans rfl
  have t4w5 : w5.cell? ⟨w.heap.size + 1, 4, none⟩ = some (.int .u8 s4) := (cell_of_row _ _ _ _ _ _ RS5.out).trans rfl
  have t5w5 : w5.cell? ⟨w.heap.size + 1, 5, none⟩ = some (.int .u8 s5) := (cell_of_row _ _ _ _ _ _ RS5.out).trans rfl
  have m0w5 : w5.cell? ⟨w2.heap.size, 0, none⟩ = some (.int .i64 p) := (cell_of_row _ _ _ _ _ _ RM5.out).trans rfl
  have m1w5 : w5.cell? ⟨w2.heap.size, 1, none⟩ = some (.int .i64 q) := (cell_of_row _ _ _ _ _ _ RM5.out).trans rfl
  simp only [HV.out, HX.out]
  go_wp2
  all_goals go_ret
  all_goals exact ⟨rfl, hB5⟩
set_option maxHeartbeats 8000000 in
set_option maxRecDepth 100000 in
theorem keeps_late8 (u l s0 s1 s2 s3 s4 s5 : Int) (hd : Array Value) (kind sub d a0 a1 a2 a3 a4 a5 e a i c : Int) (H : Head hd kind sub d a0 a1 a2 a3 a4 a5) (h0 : 0 ≤ a0 ∧ a0 ≤ 255) (h1 : 0 ≤ a1 ∧ a1 ≤ 255) (h2 : 0 ≤ a2 ∧ a2 ≤ 255) (h3 : 0 ≤ a3 ∧ a3 ≤ 255) (h4 : 0 ≤ a4 ∧ a4 ≤ 255) (h5 : 0 ≤ a5 ∧ a5 ≤ 255) (g0 : 0 ≤ s0 ∧ s0 ≤ 255) (g1 : 0 ≤ s1 ∧ s1 ≤ 255) (g2 : 0 ≤ s2 ∧ s2 ≤ 255) (g3 : 0 ≤ s3 ∧ s3 ≤ 255) (g4 : 0 ≤ s4 ∧ s4 ≤ 255) (g5 : 0 ≤ s5 ∧ s5 ≤ 255) (hsz : hd.size = 40) (hc : 0 ≤ c ∧ c ≤ 255) (hok : hE u l e d a = 0) (hf : earE (hU u l e d a (addrB a0 a1 a2 a3 a4 a5 s0 s1 s2 s3 s4 s5)) (hL u l e d a (addrB a0 a1 a2 a3 a4 a5 s0 s1 s2 s3 s4 s5) (reqB kind sub)) i c = 8) 
    (w : World) (T : Tab w) (O : Oth w) :
    Calls Tryd.prog 5 #[.agg #[.int .i64 u, .int .i64 l], .agg #[.int .u8 s0, .int .u8 s1, .int .u8 s2, .int .u8 s3, .int .u8 s4, .int .u8 s5], .agg hd, .int .i64 e, .int .i64 a, .int .i64 i, .int .u8 c] w fun en w' => en = .returned (.bool true) ∧ Below w.heap.size w w' := by
  obtain ⟨p, hp⟩ : ∃ x, hU u l e d a (addrB a0 a1 a2 a3 a4 a5 s0 s1 s2 s3 s4 s5) = x := ⟨_, rfl⟩
  obtain ⟨q, hq⟩ : ∃ x, hL u l e d a (addrB a0 a1 a2 a3 a4 a5 s0 s1 s2 s3 s4 s5) (reqB kind sub) = x := ⟨_, rfl⟩
  rw [hp, hq] at hf
  obtain ⟨t, ht⟩ : ∃ x, earN p q i c = x := ⟨_, rfl⟩
  obtain ⟨g, hg⟩ : ∃ x, spaceE c = x := ⟨_, rfl⟩
  obtain ⟨s, hs⟩ : ∃ x, spaceN c = x := ⟨_, rfl⟩
  obtain ⟨v, hv⟩ : ∃ x, navE u l = x := ⟨_, rfl⟩
  obtain ⟨x, hx⟩ : ∃ x, untN u l = x := ⟨_, rfl⟩
  have HE := Lib.hid (show hE u l e d a = 0 from hok)
  have HU := Lib.hid (show hU u l e d a (addrB a0 a1 a2 a3 a4 a5 s0 s1 s2 s3 s4 s5) = p from hp)
  have HL := Lib.hid (show hL u l e d a (addrB a0 a1 a2 a3 a4 a5 s0 s1 s2 s3 s4 s5) (reqB kind sub) = q from hq)
  have HF := Lib.hid (show earE p q i c = 8 from hf)
  have HT := Lib.hid (show earN p q i c = t from ht)
  have HG := Lib.hid (show spaceE c = g from hg)
  have HS := Lib.hid (show spaceN c = s from hs)
  have HV := Lib.hid (show navE u l = v from hv)
  have HX := Lib.hid (show untN u l = x from hx)
  clear hok hp hq hf ht hg hs hv hx
  have hinfo : (Tryd.prog.info? 48).map (·.size) = some hd.size := by rw [hsz]; kernel_rfl
  clear hsz
  obtain ⟨rn, rs, rh⟩ := fr_rows3 w (.cells #[.int .i64 u, .int .i64 l] 23) (.cells #[.int .u8 s0, .int .u8 s1, .int .u8 s2, .int .u8 s3, .int .u8 s4, .int .u8 s5] 46) (.cells hd 48)
  have RN := Lib.hid rn
  have RS := Lib.hid rs
  have RH := Lib.hid rh
  clear rn rs rh
  go_enter Tryd.func5, Tryd.ntmps5
  go_wp2_with fail
  refine (alive_any _ T.alloc.alloc.alloc O.alloc.alloc.alloc).mono ?_
  rintro en w1 ⟨rfl, hb1⟩
  have hB1 : Below w.heap.size w w1 := ((((Below.refl _ _).alloc (Nat.le_refl _) _).alloc (by simp) _).alloc (by simp only [World.size_alloc]; omega) _).trans (hb1.mono (by simp only [World.size_alloc]; omega))
  have hz1 := hb1.size
  simp only [World.size_alloc] at hz1
  have RN1 := Lib.hid (row_below hb1 RN.out)
  have RS1 := Lib.hid (row_below hb1 RS.out)
  have RH1 := Lib.hid (row_below hb1 RH.out)
  have y1 : w.heap.size + 1 + 1 < w1.heap.size := by omega
  clear hb1 RN RS RH hz1
  have n0w1 : w1.cell? ⟨w.heap.size, 0, none⟩ = some (.int .i64 u) := (cell_of_row _ _ _ _ _ _ RN1.out).trans rfl
  have n1w1 : w1.cell? ⟨w.heap.size, 1, none⟩ = some (.int .i64 l) := (cell_of_row _ _ _ _ _ _ RN1.out).trans rfl
  have t0w1 : w1.cell? ⟨w.heap.size + 1, 0, none⟩ = some (.int .u8 s0) := (cell_of_row _ _ _ _ _ _ RS1.out).trans rfl
  have t1w1 : w1.cell? ⟨w.heap.size + 1, 1, none⟩ = some (.int .u8 s1) := (cell_of_row _ _ _ _ _ _ RS1.out).trans rfl
  have t2w1 : w1.cell? ⟨w.heap.size + 1, 2, none⟩ = some (.int .u8 s2) := (cell_of_row _ _ _ _ _ _ RS1.out).trans rfl
  have t3w1 : w1.cell? ⟨w.heap.size + 1, 3, none⟩ = some (.int .u8 s3) := (cell_of_row _ _ _ _ _ _ RS1.out).trans rfl
  have t4w1 : w1.cell? ⟨w.heap.size + 1, 4, none⟩ = some (.int .u8 s4) := (cell_of_row _ _ _ _ _ _ RS1.out).trans rfl
  have t5w1 : w1.cell? ⟨w.heap.size + 1, 5, none⟩ = some (.int .u8 s5) := (cell_of_row _ _ _ _ _ _ RS1.out).trans rfl
  go_wp2_with (with_reducible refine wpList_load_row rfl 48 (.tmp 9) rfl (w.heap.size + 1 + 1) rfl 48 hd (0, 0) _ RH1.out Tryd.underlying48 rfl hinfo ?_)
  refine (heard_any u l s0 s1 s2 s3 s4 s5 hd kind sub d a0 a1 a2 a3 a4 a5 e a H h0 h1 h2 h3 h4 h5 g0 g1 g2 g3 g4 g5 _).mono ?_
  rintro en w2 ⟨rfl, hb2⟩
  have hB2 : Below w.heap.size w w2 := hB1.trans (hb2.mono (by omega))
  have RN2 := Lib.hid (row_below hb2 (RN1.out))
  have RS2 := Lib.hid (row_below hb2 (RS1.out))
  have RH2 := Lib.hid (row_below hb2 (RH1.out))
  have hz2 := hb2.size
  (try simp only [World.size_alloc] at hz2)
  have y2 : w.heap.size + 1 + 1 < w2.heap.size := by omega
  clear hb2 hz2 RN1 RS1 RH1 y1
  clear n0w1 n1w1 t0w1 t1w1 t2w1 t3w1 t4w1 t5w1
  have n0w2 : w2.cell? ⟨w.heap.size, 0, none⟩ = some (.int .i64 u) := (cell_of_row _ _ _ _ _ _ RN2.out).trans rfl
  have n1w2 : w2.cell? ⟨w.heap.size, 1, none⟩ = some (.int .i64 l) := (cell_of_row _ _ _ _ _ _ RN2.out).trans rfl
  have t0w2 : w2.cell? ⟨w.heap.size + 1, 0, none⟩ = some (.int .u8 s0) := (cell_of_row _ _ _ _ _ _ RS2.out).trans rfl
  have t1w2 : w2.cell? ⟨w.heap.size + 1, 1, none⟩ = some (.int .u8 s1) := (cell_of_row _ _ _ _ _ _ RS2.out).trans rfl
  have t2w2 : w2.cell? ⟨w.heap.size + 1, 2, none⟩ = some (.int .u8 s2) := (cell_of_row _ _ _ _ _ _ RS2.out).trans rfl
  have t3w2 : w2.cell? ⟨w.heap.size + 1, 3, none⟩ = some (.int .u8 s3) := (cell_of_row _ _ _ _ _ _ RS2.out).trans rfl
  have t4w2 : w2.cell? ⟨w.heap.size + 1, 4, none⟩ = some (.int .u8 s4) := (cell_of_row _ _ _ _ _ _ RS2.out).trans rfl
  have t5w2 : w2.cell? ⟨w.heap.size + 1, 5, none⟩ = some (.int .u8 s5) := (cell_of_row _ _ _ _ _ _ RS2.out).trans rfl
  simp only [HE.out, HU.out, HL.out]
  go_wp2_with fail
  refine (earliest_all p q i c hc _ (T.below hB2).alloc).mono ?_
  rintro en w3 ⟨rfl, hb3⟩
  have hB3 : Below w.heap.size w w3 := (hB2.alloc (by omega) _).trans (hb3.mono (by simp only [World.size_alloc]; omega))
  have RN3 := Lib.hid (row_below hb3 (row_alloc (RN2.out)))
  have RS3 := Lib.hid (row_below hb3 (row_alloc (RS2.out)))
  have RH3 := Lib.hid (row_below hb3 (row_alloc (RH2.out)))
  have RM3 := Lib.hid (row_below hb3 (heap_alloc_new w2 (.cells #[.int .i64 p, .int .i64 q] 23)))
  have hz3 := hb3.size
  (try simp only [World.size_alloc] at hz3)
  have y3 : w.heap.size + 1 + 1 < w3.heap.size := by omega
  have z3 : w2.heap.size < w3.heap.size := by omega
  clear hb3 hz3 RN2 RS2 RH2 y2
  clear n0w2 n1w2 t0w2 t1w2 t2w2 t3w2 t4w2 t5w2
  have n0w3 : w3.cell? ⟨w.heap.size, 0, none⟩ = some (.int .i64 u) := (cell_of_row _ _ _ _ _ _ RN3.out).trans rfl
  have n1w3 : w3.cell? ⟨w.heap.size, 1, none⟩ = some (.int .i64 l) := (cell_of_row _ _ _ _ _ _ RN3.out).trans rfl
  have t0w3 : w3.cell? ⟨w.heap.size + 1, 0, none⟩ = some (.int .u8 s0) := (cell_of_row _ _ _ _ _ _ RS3.out).trans rfl
  have t1w3 : w3.cell? ⟨w.heap.size + 1, 1, none⟩ = some (.int .u8 s1) := (cell_of_row _ _ _ _ _ _ RS3.out).trans rfl
  have t2w3 : w3.cell? ⟨w.heap.size + 1, 2, none⟩ = some (.int .u8 s2) := (cell_of_row _ _ _ _ _ _ RS3.out).trans rfl
  have t3w3 : w3.cell? ⟨w.heap.size + 1, 3, none⟩ = some (.int .u8 s3) := (cell_of_row _ _ _ _ _ _ RS3.out).trans rfl
  have t4w3 : w3.cell? ⟨w.heap.size + 1, 4, none⟩ = some (.int .u8 s4) := (cell_of_row _ _ _ _ _ _ RS3.out).trans rfl
  have t5w3 : w3.cell? ⟨w.heap.size + 1, 5, none⟩ = some (.int .u8 s5) := (cell_of_row _ _ _ _ _ _ RS3.out).trans rfl
  have m0w3 : w3.cell? ⟨w2.heap.size, 0, none⟩ = some (.int .i64 p) := (cell_of_row _ _ _ _ _ _ RM3.out).trans rfl
  have m1w3 : w3.cell? ⟨w2.heap.size, 1, none⟩ = some (.int .i64 q) := (cell_of_row _ _ _ _ _ _ RM3.out).trans rfl
  simp only [HF.out, HT.out]
  go_wp2_with fail
  refine (space_any c hc _ (T.below hB3)).mono ?_
  rintro en w4 ⟨rfl, hb4⟩
  have hB4 : Below w.heap.size w w4 := hB3.trans (hb4.mono (by omega))
  have RN4 := Lib.hid (row_below hb4 (RN3.out))
  have RS4 := Lib.hid (row_below hb4 (RS3.out))
  have RH4 := Lib.hid (row_below hb4 (RH3.out))
  have RM4 := Lib.hid (row_below hb4 (RM3.out))
  have hz4 := hb4.size
  (try simp only [World.size_alloc] at hz4)
  have y4 : w.heap.size + 1 + 1 < w4.heap.size := by omega
  have z4 : w2.heap.size < w4.heap.size := by omega
  clear hb4 hz4 RN3 RS3 RH3 y3 RM3 z3
  clear n0w3 n1w3 t0w3 t1w3 t2w3 t3w3 t4w3 t5w3 m0w3 m1w3
  have n0w4 : w4.cell? ⟨w.heap.size, 0, none⟩ = some (.int .i64 u) := (cell_of_row _ _ _ _ _ _ RN4.out).trans rfl
  have n1w4 : w4.cell? ⟨w.heap.size, 1, none⟩ = some (.int .i64 l) := (cell_of_row _ _ _ _ _ _ RN4.out).trans rfl
  have t0w4 : w4.cell? ⟨w.heap.size + 1, 0, none⟩ = some (.int .u8 s0) := (cell_of_row _ _ _ _ _ _ RS4.out).trans rfl
  have t1w4 : w4.cell? ⟨w.heap.size + 1, 1, none⟩ = some (.int .u8 s1) := (cell_of_row _ _ _ _ _ _ RS4.out).trans rfl
  have t2w4 : w4.cell? ⟨w.heap.size + 1, 2, none⟩ = some (.int .u8 s2) := (cell_of_row _ _ _ _ _ _ RS4.out).trans rfl
  have t3w4 : w4.cell? ⟨w.heap.size + 1, 3, none⟩ = some (.int .u8 s3) := (cell_of_row _ _ _ _ _ _ RS4.out).trans rfl
  have t4w4 : w4.cell? ⟨w.heap.size + 1, 4, none⟩ = some (.int .u8 s4) := (cell_of_row _ _ _ _ _ _ RS4.out).trans rfl
  have t5w4 : w4.cell? ⟨w.heap.size + 1, 5, none⟩ = some (.int .u8 s5) := (cell_of_row _ _ _ _ _ _ RS4.out).trans rfl
  have m0w4 : w4.cell? ⟨w2.heap.size, 0, none⟩ = some (.int .i64 p) := (cell_of_row _ _ _ _ _ _ RM4.out).trans rfl
  have m1w4 : w4.cell? ⟨w2.heap.size, 1, none⟩ = some (.int .i64 q) := (cell_of_row _ _ _ _ _ _ RM4.out).trans rfl
  simp only [HG.out, HS.out]
  go_wp2_with fail
  refine (until_all u l _).mono ?_
  rintro en w5 ⟨rfl, hb5⟩
  have hB5 : Below w.heap.size w w5 := hB4.trans (hb5.mono (by omega))
  have RN5 := Lib.hid (row_below hb5 (RN4.out))
  have RS5 := Lib.hid (row_below hb5 (RS4.out))
  have RH5 := Lib.hid (row_below hb5 (RH4.out))
  have RM5 := Lib.hid (row_below hb5 (RM4.out))
  have hz5 := hb5.size
  (try simp only [World.size_alloc] at hz5)
  have y5 : w.heap.size + 1 + 1 < w5.heap.size := by omega
  have z5 : w2.heap.size < w5.heap.size := by omega
  clear hb5 hz5 RN4 RS4 RH4 y4 RM4 z4
  clear n0w4 n1w4 t0w4 t1w4 t2w4 t3w4 t4w4 t5w4 m0w4 m1w4
  have n0w5 : w5.cell? ⟨w.heap.size, 0, none⟩ = some (.int .i64 u) := (cell_of_row _ _ _ _ _ _ RN5.out).trans rfl
  have n1w5 : w5.cell? ⟨w.heap.size, 1, none⟩ = some (.int .i64 l) := (cell_of_row _ _ _ _ _ _ RN5.out).trans rfl
  have t0w5 : w5.cell? ⟨w.heap.size + 1, 0, none⟩ = some (.int .u8 s0) := (cell_of_row _ _ _ _ _ _ RS5.out).trans rfl
  have t1w5 : w5.cell? ⟨w.heap.size + 1, 1, none⟩ = some (.int .u8 s1) := (cell_of_row _ _ _ _ _ _ RS5.out).trans rfl
  have t2w5 : w5.cell? ⟨w.heap.size + 1, 2, none⟩ = some (.int .u8 s2) := (cell_of_row _ _ _ _ _ _ RS5.out).trans rfl
  have t3w5 : w5.cell? ⟨w.heap.size + 1, 3, none⟩ = some (.int .u8 s3) := (cell_of_row _ _ _ _ _ _ RS5.out).trans rfl
  have t4w5 : w5.cell? ⟨w.heap.size + 1, 4, none⟩ = some (.int .u8 s4) := (cell_of_row _ _ _ _ _ _ RS5.out).trans rfl
  have t5w5 : w5.cell? ⟨w.heap.size + 1, 5, none⟩ = some (.int .u8 s5) := (cell_of_row _ _ _ _ _ _ RS5.out).trans rfl
  have m0w5 : w5.cell? ⟨w2.heap.size, 0, none⟩ = some (.int .i64 p) := (cell_of_row _ _ _ _ _ _ RM5.out).trans rfl
  have m1w5 : w5.cell? ⟨w2.heap.size, 1, none⟩ = some (.int .i64 q) := (cell_of_row _ _ _ _ _ _ RM5.out).trans rfl
  simp only [HV.out, HX.out]
  go_wp2
  all_goals go_ret
  all_goals exact ⟨rfl, hB5⟩
set_option maxHeartbeats 8000000 in
set_option maxRecDepth 100000 in
theorem keeps_ok (u l s0 s1 s2 s3 s4 s5 : Int) (hd : Array Value) (kind sub d a0 a1 a2 a3 a4 a5 e a i c : Int) (H : Head hd kind sub d a0 a1 a2 a3 a4 a5) (h0 : 0 ≤ a0 ∧ a0 ≤ 255) (h1 : 0 ≤ a1 ∧ a1 ≤ 255) (h2 : 0 ≤ a2 ∧ a2 ≤ 255) (h3 : 0 ≤ a3 ∧ a3 ≤ 255) (h4 : 0 ≤ a4 ∧ a4 ≤ 255) (h5 : 0 ≤ a5 ∧ a5 ≤ 255) (g0 : 0 ≤ s0 ∧ s0 ≤ 255) (g1 : 0 ≤ s1 ∧ s1 ≤ 255) (g2 : 0 ≤ s2 ∧ s2 ≤ 255) (g3 : 0 ≤ s3 ∧ s3 ≤ 255) (g4 : 0 ≤ s4 ∧ s4 ≤ 255) (g5 : 0 ≤ s5 ∧ s5 ≤ 255) (hsz : hd.size = 40) (hc : 0 ≤ c ∧ c ≤ 255) (hok : hE u l e d a = 0) (hf : earE (hU u l e d a (addrB a0 a1 a2 a3 a4 a5 s0 s1 s2 s3 s4 s5)) (hL u l e d a (addrB a0 a1 a2 a3 a4 a5 s0 s1 s2 s3 s4 s5) (reqB kind sub)) i c = 0) 
    (w : World) (T : Tab w) (O : Oth w) :
    Calls Tryd.prog 5 #[.agg #[.int .i64 u, .int .i64 l], .agg #[.int .u8 s0, .int .u8 s1, .int .u8 s2, .int .u8 s3, .int .u8 s4, .int .u8 s5], .agg hd, .int .i64 e, .int .i64 a, .int .i64 i, .int .u8 c] w fun en w' => en = .returned (.bool true) ∧ Below w.heap.size w w' := by
  obtain ⟨hv, be, bd, ba, eu, el⟩ := h_ok u l e d a (addrB a0 a1 a2 a3 a4 a5 s0 s1 s2 s3 s4 s5) (reqB kind sub) hok
  obtain ⟨hr, f1, f2, f3, f4, bi, f5⟩ := far _ _ i c hf
  have hg := (ear_ok _ _ i c hf).2.1
  have bt := earN_bounds (hU u l e d a (addrB a0 a1 a2 a3 a4 a5 s0 s1 s2 s3 s4 s5)) (hL u l e d a (addrB a0 a1 a2 a3 a4 a5 s0 s1 s2 s3 s4 s5) (reqB kind sub)) i c
  have bn := nav_in u l hv
  have hx0 : untN u l = navEnd u l := by simp [untN, hv]
  have bx : 0 ≤ navEnd u l ∧ navEnd u l ≤ 2199023255552 := by simp only [navEnd]; split <;> omega
  have c1 : (addrB a0 a1 a2 a3 a4 a5 s0 s1 s2 s3 s4 s5) = true ∨ ((addrB a0 a1 a2 a3 a4 a5 s0 s1 s2 s3 s4 s5) = false ∧ (kind == 1) = false ∧ e + d + spaceN c ≤ earN (hU u l e d a (addrB a0 a1 a2 a3 a4 a5 s0 s1 s2 s3 s4 s5)) (hL u l e d a (addrB a0 a1 a2 a3 a4 a5 s0 s1 s2 s3 s4 s5) (reqB kind sub)) i c) ∨ ((addrB a0 a1 a2 a3 a4 a5 s0 s1 s2 s3 s4 s5) = false ∧ (kind == 1) = true ∧ (sub == 11) = false ∧ e + d + spaceN c ≤ earN (hU u l e d a (addrB a0 a1 a2 a3 a4 a5 s0 s1 s2 s3 s4 s5)) (hL u l e d a (addrB a0 a1 a2 a3 a4 a5 s0 s1 s2 s3 s4 s5) (reqB kind sub)) i c) ∨ ((addrB a0 a1 a2 a3 a4 a5 s0 s1 s2 s3 s4 s5) = false ∧ (kind == 1) = true ∧ (sub == 11) = true) := by
    by_cases q0 : (addrB a0 a1 a2 a3 a4 a5 s0 s1 s2 s3 s4 s5) = true
    · exact .inl q0
    · have q0 : (addrB a0 a1 a2 a3 a4 a5 s0 s1 s2 s3 s4 s5) = false := by simpa using q0
      by_cases q1 : (kind == 1) = true
      · by_cases q2 : (sub == 11) = true
        · exact .inr (.inr (.inr ⟨q0, q1, q2⟩))
        · have q2 : (sub == 11) = false := by simpa using q2
          have hreq : reqB kind sub = false := by simp only [reqB, q2, Bool.and_false]
          rw [eu, el, q0, hreq] at f2
          have := end_frame u l e d a be.1 bd.1 hv
          refine .inr (.inr (.inl ⟨q0, q1, q2, ?_⟩))
          rw [eu, el, q0, hreq]
          omega
      · have q1 : (kind == 1) = false := by simpa using q1
        have hreq : reqB kind sub = false := by simp only [reqB, q1, Bool.false_and]
        rw [eu, el, q0, hreq] at f2
        have := end_frame u l e d a be.1 bd.1 hv
        refine .inr (.inl ⟨q0, q1, ?_⟩)
        rw [eu, el, q0, hreq]
        omega
  have c2 : navEnd u l < e ∨ (e ≤ navEnd u l ∧ navEnd u l + spaceN c ≤ earN (hU u l e d a (addrB a0 a1 a2 a3 a4 a5 s0 s1 s2 s3 s4 s5)) (hL u l e d a (addrB a0 a1 a2 a3 a4 a5 s0 s1 s2 s3 s4 s5) (reqB kind sub)) i c) := by
    by_cases q : navEnd u l < e
    · exact .inl q
    · have := end_kept u l e d a (addrB a0 a1 a2 a3 a4 a5 s0 s1 s2 s3 s4 s5) (reqB kind sub) be.1 bd.1 hv q
      rw [← eu, ← el] at this
      exact .inr ⟨by omega, by omega⟩
  clear eu el bn f2 ba
  obtain ⟨p, hp⟩ : ∃ x, hU u l e d a (addrB a0 a1 a2 a3 a4 a5 s0 s1 s2 s3 s4 s5) = x := ⟨_, rfl⟩
  obtain ⟨q, hq⟩ : ∃ x, hL u l e d a (addrB a0 a1 a2 a3 a4 a5 s0 s1 s2 s3 s4 s5) (reqB kind sub) = x := ⟨_, rfl⟩
  rw [hp, hq] at hr f1 f5 hf bt c1 c2
  obtain ⟨t, ht⟩ : ∃ x, earN p q i c = x := ⟨_, rfl⟩
  obtain ⟨s, hs⟩ : ∃ x, spaceN c = x := ⟨_, rfl⟩
  obtain ⟨x, hx⟩ : ∃ x, navEnd u l = x := ⟨_, rfl⟩
  rw [ht] at hr f1 f5 bt c1 c2
  rw [hs] at f1 f3 f4 c1 c2
  rw [hx] at c2 bx hx0
  have HE := Lib.hid (show hE u l e d a = 0 from hok)
  have HU := Lib.hid (show hU u l e d a (addrB a0 a1 a2 a3 a4 a5 s0 s1 s2 s3 s4 s5) = p from hp)
  have HL := Lib.hid (show hL u l e d a (addrB a0 a1 a2 a3 a4 a5 s0 s1 s2 s3 s4 s5) (reqB kind sub) = q from hq)
  have HF := Lib.hid (show earE p q i c = 0 from hf)
  have HT := Lib.hid (show earN p q i c = t from ht)
  have HG := Lib.hid (show spaceE c = 0 from hg)
  have HS := Lib.hid (show spaceN c = s from hs)
  have HV := Lib.hid (show navE u l = 0 from hv)
  have HX := Lib.hid (show untN u l = x from hx0)
  have HR := Lib.hid (show resB p q t = false from hr)
  have C1 := Lib.hid c1
  have C2 := Lib.hid c2
  have F5 := Lib.hid f5
  have E := eql_addr a0 a1 a2 a3 a4 a5 s0 s1 s2 s3 s4 s5 h0 h1 h2 h3 h4 h5 g0 g1 g2 g3 g4 g5
  have EE := Lib.hid E
  obtain ⟨hsz', k0, k1, k9, k10, k11, k12, k13, k14, k15⟩ := id H
  have K0 := Lib.hid k0
  have K1 := Lib.hid k1
  have K9 := Lib.hid k9
  have K10 := Lib.hid k10
  have K11 := Lib.hid k11
  have K12 := Lib.hid k12
  have K13 := Lib.hid k13
  have K14 := Lib.hid k14
  have K15 := Lib.hid k15
  clear hok hp hq hf ht hg hs hv hx hx0 hr c1 c2 f5 E hsz' k0 k1 k9 k10 k11 k12 k13 k14 k15
  have hinfo : (Tryd.prog.info? 48).map (·.size) = some hd.size := by rw [hsz]; kernel_rfl
  clear hsz
  obtain ⟨rn, rs, rh⟩ := fr_rows3 w (.cells #[.int .i64 u, .int .i64 l] 23) (.cells #[.int .u8 s0, .int .u8 s1, .int .u8 s2, .int .u8 s3, .int .u8 s4, .int .u8 s5] 46) (.cells hd 48)
  have RN := Lib.hid rn
  have RS := Lib.hid rs
  have RH := Lib.hid rh
  clear rn rs rh
  go_enter Tryd.func5, Tryd.ntmps5
  go_wp2_with fail
  refine (alive_any _ T.alloc.alloc.alloc O.alloc.alloc.alloc).mono ?_
  rintro en w1 ⟨rfl, hb1⟩
  have hB1 : Below w.heap.size w w1 := ((((Below.refl _ _).alloc (Nat.le_refl _) _).alloc (by simp) _).alloc (by simp only [World.size_alloc]; omega) _).trans (hb1.mono (by simp only [World.size_alloc]; omega))
  have hz1 := hb1.size
  simp only [World.size_alloc] at hz1
  have RN1 := Lib.hid (row_below hb1 RN.out)
  have RS1 := Lib.hid (row_below hb1 RS.out)
  have RH1 := Lib.hid (row_below hb1 RH.out)
  have y1 : w.heap.size + 1 + 1 < w1.heap.size := by omega
  clear hb1 RN RS RH hz1
  have n0w1 : w1.cell? ⟨w.heap.size, 0, none⟩ = some (.int .i64 u) := (cell_of_row _ _ _ _ _ _ RN1.out).trans rfl
  have n1w1 : w1.cell? ⟨w.heap.size, 1, none⟩ = some (.int .i64 l) := (cell_of_row _ _ _ _ _ _ RN1.out).trans rfl
  have t0w1 : w1.cell? ⟨w.heap.size + 1, 0, none⟩ = some (.int .u8 s0) := (cell_of_row _ _ _ _ _ _ RS1.out).trans rfl
  have t1w1 : w1.cell? ⟨w.heap.size + 1, 1, none⟩ = some (.int .u8 s1) := (cell_of_row _ _ _ _ _ _ RS1.out).trans rfl
  have t2w1 : w1.cell? ⟨w.heap.size + 1, 2, none⟩ = some (.int .u8 s2) := (cell_of_row _ _ _ _ _ _ RS1.out).trans rfl
  have t3w1 : w1.cell? ⟨w.heap.size + 1, 3, none⟩ = some (.int .u8 s3) := (cell_of_row _ _ _ _ _ _ RS1.out).trans rfl
  have t4w1 : w1.cell? ⟨w.heap.size + 1, 4, none⟩ = some (.int .u8 s4) := (cell_of_row _ _ _ _ _ _ RS1.out).trans rfl
  have t5w1 : w1.cell? ⟨w.heap.size + 1, 5, none⟩ = some (.int .u8 s5) := (cell_of_row _ _ _ _ _ _ RS1.out).trans rfl
  go_wp2_with (with_reducible refine wpList_load_row rfl 48 (.tmp 9) rfl (w.heap.size + 1 + 1) rfl 48 hd (0, 0) _ RH1.out Tryd.underlying48 rfl hinfo ?_)
  refine (heard_any u l s0 s1 s2 s3 s4 s5 hd kind sub d a0 a1 a2 a3 a4 a5 e a H h0 h1 h2 h3 h4 h5 g0 g1 g2 g3 g4 g5 _).mono ?_
  rintro en w2 ⟨rfl, hb2⟩
  have hB2 : Below w.heap.size w w2 := hB1.trans (hb2.mono (by omega))
  have RN2 := Lib.hid (row_below hb2 (RN1.out))
  have RS2 := Lib.hid (row_below hb2 (RS1.out))
  have RH2 := Lib.hid (row_below hb2 (RH1.out))
  have hz2 := hb2.size
  (try simp only [World.size_alloc] at hz2)
  have y2 : w.heap.size + 1 + 1 < w2.heap.size := by omega
  clear hb2 hz2 RN1 RS1 RH1 y1
  clear n0w1 n1w1 t0w1 t1w1 t2w1 t3w1 t4w1 t5w1
  have n0w2 : w2.cell? ⟨w.heap.size, 0, none⟩ = some (.int .i64 u) := (cell_of_row _ _ _ _ _ _ RN2.out).trans rfl
  have n1w2 : w2.cell? ⟨w.heap.size, 1, none⟩ = some (.int .i64 l) := (cell_of_row _ _ _ _ _ _ RN2.out).trans rfl
  have t0w2 : w2.cell? ⟨w.heap.size + 1, 0, none⟩ = some (.int .u8 s0) := (cell_of_row _ _ _ _ _ _ RS2.out).trans rfl
  have t1w2 : w2.cell? ⟨w.heap.size + 1, 1, none⟩ = some (.int .u8 s1) := (cell_of_row _ _ _ _ _ _ RS2.out).trans rfl
  have t2w2 : w2.cell? ⟨w.heap.size + 1, 2, none⟩ = some (.int .u8 s2) := (cell_of_row _ _ _ _ _ _ RS2.out).trans rfl
  have t3w2 : w2.cell? ⟨w.heap.size + 1, 3, none⟩ = some (.int .u8 s3) := (cell_of_row _ _ _ _ _ _ RS2.out).trans rfl
  have t4w2 : w2.cell? ⟨w.heap.size + 1, 4, none⟩ = some (.int .u8 s4) := (cell_of_row _ _ _ _ _ _ RS2.out).trans rfl
  have t5w2 : w2.cell? ⟨w.heap.size + 1, 5, none⟩ = some (.int .u8 s5) := (cell_of_row _ _ _ _ _ _ RS2.out).trans rfl
  simp only [HE.out, HU.out, HL.out]
  go_wp2_with fail
  refine (earliest_all p q i c hc _ (T.below hB2).alloc).mono ?_
  rintro en w3 ⟨rfl, hb3⟩
  have hB3 : Below w.heap.size w w3 := (hB2.alloc (by omega) _).trans (hb3.mono (by simp only [World.size_alloc]; omega))
  have RN3 := Lib.hid (row_below hb3 (row_alloc (RN2.out)))
  have RS3 := Lib.hid (row_below hb3 (row_alloc (RS2.out)))
  have RH3 := Lib.hid (row_below hb3 (row_alloc (RH2.out)))
  have RM3 := Lib.hid (row_below hb3 (heap_alloc_new w2 (.cells #[.int .i64 p, .int .i64 q] 23)))
  have hz3 := hb3.size
  (try simp only [World.size_alloc] at hz3)
  have y3 : w.heap.size + 1 + 1 < w3.heap.size := by omega
  have z3 : w2.heap.size < w3.heap.size := by omega
  clear hb3 hz3 RN2 RS2 RH2 y2
  clear n0w2 n1w2 t0w2 t1w2 t2w2 t3w2 t4w2 t5w2
  have n0w3 : w3.cell? ⟨w.heap.size, 0, none⟩ = some (.int .i64 u) := (cell_of_row _ _ _ _ _ _ RN3.out).trans rfl
  have n1w3 : w3.cell? ⟨w.heap.size, 1, none⟩ = some (.int .i64 l) := (cell_of_row _ _ _ _ _ _ RN3.out).trans rfl
  have t0w3 : w3.cell? ⟨w.heap.size + 1, 0, none⟩ = some (.int .u8 s0) := (cell_of_row _ _ _ _ _ _ RS3.out).trans rfl
  have t1w3 : w3.cell? ⟨w.heap.size + 1, 1, none⟩ = some (.int .u8 s1) := (cell_of_row _ _ _ _ _ _ RS3.out).trans rfl
  have t2w3 : w3.cell? ⟨w.heap.size + 1, 2, none⟩ = some (.int .u8 s2) := (cell_of_row _ _ _ _ _ _ RS3.out).trans rfl
  have t3w3 : w3.cell? ⟨w.heap.size + 1, 3, none⟩ = some (.int .u8 s3) := (cell_of_row _ _ _ _ _ _ RS3.out).trans rfl
  have t4w3 : w3.cell? ⟨w.heap.size + 1, 4, none⟩ = some (.int .u8 s4) := (cell_of_row _ _ _ _ _ _ RS3.out).trans rfl
  have t5w3 : w3.cell? ⟨w.heap.size + 1, 5, none⟩ = some (.int .u8 s5) := (cell_of_row _ _ _ _ _ _ RS3.out).trans rfl
  have m0w3 : w3.cell? ⟨w2.heap.size, 0, none⟩ = some (.int .i64 p) := (cell_of_row _ _ _ _ _ _ RM3.out).trans rfl
  have m1w3 : w3.cell? ⟨w2.heap.size, 1, none⟩ = some (.int .i64 q) := (cell_of_row _ _ _ _ _ _ RM3.out).trans rfl
  simp only [HF.out, HT.out]
  go_wp2_with fail
  refine (space_any c hc _ (T.below hB3)).mono ?_
  rintro en w4 ⟨rfl, hb4⟩
  have hB4 : Below w.heap.size w w4 := hB3.trans (hb4.mono (by omega))
  have RN4 := Lib.hid (row_below hb4 (RN3.out))
  have RS4 := Lib.hid (row_below hb4 (RS3.out))
  have RH4 := Lib.hid (row_below hb4 (RH3.out))
  have RM4 := Lib.hid (row_below hb4 (RM3.out))
  have hz4 := hb4.size
  (try simp only [World.size_alloc] at hz4)
  have y4 : w.heap.size + 1 + 1 < w4.heap.size := by omega
  have z4 : w2.heap.size < w4.heap.size := by omega
  clear hb4 hz4 RN3 RS3 RH3 y3 RM3 z3
  clear n0w3 n1w3 t0w3 t1w3 t2w3 t3w3 t4w3 t5w3 m0w3 m1w3
  have n0w4 : w4.cell? ⟨w.heap.size, 0, none⟩ = some (.int .i64 u) := (cell_of_row _ _ _ _ _ _ RN4.out).trans rfl
  have n1w4 : w4.cell? ⟨w.heap.size, 1, none⟩ = some (.int .i64 l) := (cell_of_row _ _ _ _ _ _ RN4.out).trans rfl
  have t0w4 : w4.cell? ⟨w.heap.size + 1, 0, none⟩ = some (.int .u8 s0) := (cell_of_row _ _ _ _ _ _ RS4.out).trans rfl
  have t1w4 : w4.cell? ⟨w.heap.size + 1, 1, none⟩ = some (.int .u8 s1) := (cell_of_row _ _ _ _ _ _ RS4.out).trans rfl
  have t2w4 : w4.cell? ⟨w.heap.size + 1, 2, none⟩ = some (.int .u8 s2) := (cell_of_row _ _ _ _ _ _ RS4.out).trans rfl
  have t3w4 : w4.cell? ⟨w.heap.size + 1, 3, none⟩ = some (.int .u8 s3) := (cell_of_row _ _ _ _ _ _ RS4.out).trans rfl
  have t4w4 : w4.cell? ⟨w.heap.size + 1, 4, none⟩ = some (.int .u8 s4) := (cell_of_row _ _ _ _ _ _ RS4.out).trans rfl
  have t5w4 : w4.cell? ⟨w.heap.size + 1, 5, none⟩ = some (.int .u8 s5) := (cell_of_row _ _ _ _ _ _ RS4.out).trans rfl
  have m0w4 : w4.cell? ⟨w2.heap.size, 0, none⟩ = some (.int .i64 p) := (cell_of_row _ _ _ _ _ _ RM4.out).trans rfl
  have m1w4 : w4.cell? ⟨w2.heap.size, 1, none⟩ = some (.int .i64 q) := (cell_of_row _ _ _ _ _ _ RM4.out).trans rfl
  simp only [HG.out, HS.out]
  go_wp2_with fail
  refine (until_all u l _).mono ?_
  rintro en w5 ⟨rfl, hb5⟩
  have hB5 : Below w.heap.size w w5 := hB4.trans (hb5.mono (by omega))
  have RN5 := Lib.hid (row_below hb5 (RN4.out))
  have RS5 := Lib.hid (row_below hb5 (RS4.out))
  have RH5 := Lib.hid (row_below hb5 (RH4.out))
  have RM5 := Lib.hid (row_below hb5 (RM4.out))
  have hz5 := hb5.size
  (try simp only [World.size_alloc] at hz5)
  have y5 : w.heap.size + 1 + 1 < w5.heap.size := by omega
  have z5 : w2.heap.size < w5.heap.size := by omega
  clear hb5 hz5 RN4 RS4 RH4 y4 RM4 z4
  clear n0w4 n1w4 t0w4 t1w4 t2w4 t3w4 t4w4 t5w4 m0w4 m1w4
  have n0w5 : w5.cell? ⟨w.heap.size, 0, none⟩ = some (.int .i64 u) := (cell_of_row _ _ _ _ _ _ RN5.out).trans rfl
  have n1w5 : w5.cell? ⟨w.heap.size, 1, none⟩ = some (.int .i64 l) := (cell_of_row _ _ _ _ _ _ RN5.out).trans rfl
  have t0w5 : w5.cell? ⟨w.heap.size + 1, 0, none⟩ = some (.int .u8 s0) := (cell_of_row _ _ _ _ _ _ RS5.out).trans rfl
  have t1w5 : w5.cell? ⟨w.heap.size + 1, 1, none⟩ = some (.int .u8 s1) := (cell_of_row _ _ _ _ _ _ RS5.out).trans rfl
  have t2w5 : w5.cell? ⟨w.heap.size + 1, 2, none⟩ = some (.int .u8 s2) := (cell_of_row _ _ _ _ _ _ RS5.out).trans rfl
  have t3w5 : w5.cell? ⟨w.heap.size + 1, 3, none⟩ = some (.int .u8 s3) := (cell_of_row _ _ _ _ _ _ RS5.out).trans rfl
  have t4w5 : w5.cell? ⟨w.heap.size + 1, 4, none⟩ = some (.int .u8 s4) := (cell_of_row _ _ _ _ _ _ RS5.out).trans rfl
  have t5w5 : w5.cell? ⟨w.heap.size + 1, 5, none⟩ = some (.int .u8 s5) := (cell_of_row _ _ _ _ _ _ RS5.out).trans rfl
  have m0w5 : w5.cell? ⟨w2.heap.size, 0, none⟩ = some (.int .i64 p) := (cell_of_row _ _ _ _ _ _ RM5.out).trans rfl
  have m1w5 : w5.cell? ⟨w2.heap.size, 1, none⟩ = some (.int .i64 q) := (cell_of_row _ _ _ _ _ _ RM5.out).trans rfl
  simp only [HV.out, HX.out]
  go_wp2_with fail
  refine (reserved_all p q t _).mono ?_
  rintro en w6 ⟨rfl, hb6⟩
  have hB6 : Below w.heap.size w w6 := hB5.trans (hb6.mono (by omega))
  have RN6 := Lib.hid (row_below hb6 (RN5.out))
  have RS6 := Lib.hid (row_below hb6 (RS5.out))
  have RH6 := Lib.hid (row_below hb6 (RH5.out))
  have RM6 := Lib.hid (row_below hb6 (RM5.out))
  have hz6 := hb6.size
  (try simp only [World.size_alloc] at hz6)
  have y6 : w.heap.size + 1 + 1 < w6.heap.size := by omega
  have z6 : w2.heap.size < w6.heap.size := by omega
  clear hb6 hz6 RN5 RS5 RH5 y5 RM5 z5
  clear n0w5 n1w5 t0w5 t1w5 t2w5 t3w5 t4w5 t5w5 m0w5 m1w5
  have n0w6 : w6.cell? ⟨w.heap.size, 0, none⟩ = some (.int .i64 u) := (cell_of_row _ _ _ _ _ _ RN6.out).trans rfl
  have n1w6 : w6.cell? ⟨w.heap.size, 1, none⟩ = some (.int .i64 l) := (cell_of_row _ _ _ _ _ _ RN6.out).trans rfl
  have t0w6 : w6.cell? ⟨w.heap.size + 1, 0, none⟩ = some (.int .u8 s0) := (cell_of_row _ _ _ _ _ _ RS6.out).trans rfl
  have t1w6 : w6.cell? ⟨w.heap.size + 1, 1, none⟩ = some (.int .u8 s1) := (cell_of_row _ _ _ _ _ _ RS6.out).trans rfl
  have t2w6 : w6.cell? ⟨w.heap.size + 1, 2, none⟩ = some (.int .u8 s2) := (cell_of_row _ _ _ _ _ _ RS6.out).trans rfl
  have t3w6 : w6.cell? ⟨w.heap.size + 1, 3, none⟩ = some (.int .u8 s3) := (cell_of_row _ _ _ _ _ _ RS6.out).trans rfl
  have t4w6 : w6.cell? ⟨w.heap.size + 1, 4, none⟩ = some (.int .u8 s4) := (cell_of_row _ _ _ _ _ _ RS6.out).trans rfl
  have t5w6 : w6.cell? ⟨w.heap.size + 1, 5, none⟩ = some (.int .u8 s5) := (cell_of_row _ _ _ _ _ _ RS6.out).trans rfl
  have k0w6 : w6.cell? ⟨w.heap.size + 1 + 1, 0, none⟩ = some (.int .u8 kind) := (cell_of_row _ _ _ _ _ _ RH6.out).trans K0.out
  have k1w6 : w6.cell? ⟨w.heap.size + 1 + 1, 1, none⟩ = some (.int .u8 sub) := (cell_of_row _ _ _ _ _ _ RH6.out).trans K1.out
  have k9w6 : w6.cell? ⟨w.heap.size + 1 + 1, 9, none⟩ = some (.int .i64 d) := (cell_of_row _ _ _ _ _ _ RH6.out).trans K9.out
  have k10w6 : w6.cell? ⟨w.heap.size + 1 + 1, 10, none⟩ = some (.int .u8 a0) := (cell_of_row _ _ _ _ _ _ RH6.out).trans K10.out
  have k11w6 : w6.cell? ⟨w.heap.size + 1 + 1, 11, none⟩ = some (.int .u8 a1) := (cell_of_row _ _ _ _ _ _ RH6.out).trans K11.out
  have k12w6 : w6.cell? ⟨w.heap.size + 1 + 1, 12, none⟩ = some (.int .u8 a2) := (cell_of_row _ _ _ _ _ _ RH6.out).trans K12.out
  have k13w6 : w6.cell? ⟨w.heap.size + 1 + 1, 13, none⟩ = some (.int .u8 a3) := (cell_of_row _ _ _ _ _ _ RH6.out).trans K13.out
  have k14w6 : w6.cell? ⟨w.heap.size + 1 + 1, 14, none⟩ = some (.int .u8 a4) := (cell_of_row _ _ _ _ _ _ RH6.out).trans K14.out
  have k15w6 : w6.cell? ⟨w.heap.size + 1 + 1, 15, none⟩ = some (.int .u8 a5) := (cell_of_row _ _ _ _ _ _ RH6.out).trans K15.out
  have m0w6 : w6.cell? ⟨w2.heap.size, 0, none⟩ = some (.int .i64 p) := (cell_of_row _ _ _ _ _ _ RM6.out).trans rfl
  have m1w6 : w6.cell? ⟨w2.heap.size, 1, none⟩ = some (.int .i64 q) := (cell_of_row _ _ _ _ _ _ RM6.out).trans rfl
  simp only [HR.out]
  have E := EE.out
  have c1 := C1.out
  have c2 := C2.out
  have f5 := F5.out
  clear EE C1 C2 F5
  generalize (addrB a0 a1 a2 a3 a4 a5 s0 s1 s2 s3 s4 s5) = mine at E c1
  rcases c1 with rfl | ⟨rfl, q1, q2⟩ | ⟨rfl, q1, q2, q3⟩ | ⟨rfl, q1, q2⟩
  all_goals rcases c2 with c2 | ⟨c2, c3⟩
  all_goals rcases f5 with ⟨f5, f6⟩ | ⟨f5, f6⟩
  all_goals
    simp only [f6]
    clear f6
    go_wp2
    all_goals go_ret
    all_goals exact ⟨rfl, hB6⟩
theorem walk (u l s0 s1 s2 s3 s4 s5 : Int) (hd : Array Value) (kind sub d a0 a1 a2 a3 a4 a5 e a i c : Int) (H : Head hd kind sub d a0 a1 a2 a3 a4 a5) (h0 : 0 ≤ a0 ∧ a0 ≤ 255) (h1 : 0 ≤ a1 ∧ a1 ≤ 255) (h2 : 0 ≤ a2 ∧ a2 ≤ 255) (h3 : 0 ≤ a3 ∧ a3 ≤ 255) (h4 : 0 ≤ a4 ∧ a4 ≤ 255) (h5 : 0 ≤ a5 ∧ a5 ≤ 255) (g0 : 0 ≤ s0 ∧ s0 ≤ 255) (g1 : 0 ≤ s1 ∧ s1 ≤ 255) (g2 : 0 ≤ s2 ∧ s2 ≤ 255) (g3 : 0 ≤ s3 ∧ s3 ≤ 255) (g4 : 0 ≤ s4 ∧ s4 ≤ 255) (g5 : 0 ≤ s5 ∧ s5 ≤ 255) (hsz : hd.size = 40) (hc : 0 ≤ c ∧ c ≤ 255) 
    (w : World) (T : Tab w) (O : Oth w) :
    Calls Tryd.prog 5 #[.agg #[.int .i64 u, .int .i64 l], .agg #[.int .u8 s0, .int .u8 s1, .int .u8 s2, .int .u8 s3, .int .u8 s4, .int .u8 s5], .agg hd, .int .i64 e, .int .i64 a, .int .i64 i, .int .u8 c] w fun en w' => en = .returned (.bool true) ∧ Below w.heap.size w w' := by
  rcases hE_cases u l e d a with h | h | h
  · rcases earE_cases (hU u l e d a (addrB a0 a1 a2 a3 a4 a5 s0 s1 s2 s3 s4 s5)) (hL u l e d a (addrB a0 a1 a2 a3 a4 a5 s0 s1 s2 s3 s4 s5) (reqB kind sub)) i c with h' | h' | h'
    · exact keeps_ok u l s0 s1 s2 s3 s4 s5 hd kind sub d a0 a1 a2 a3 a4 a5 e a i c H h0 h1 h2 h3 h4 h5 g0 g1 g2 g3 g4 g5 hsz hc h h' w T O
    · exact keeps_late2 u l s0 s1 s2 s3 s4 s5 hd kind sub d a0 a1 a2 a3 a4 a5 e a i c H h0 h1 h2 h3 h4 h5 g0 g1 g2 g3 g4 g5 hsz hc h h' w T O
    · exact keeps_late8 u l s0 s1 s2 s3 s4 s5 hd kind sub d a0 a1 a2 a3 a4 a5 e a i c H h0 h1 h2 h3 h4 h5 g0 g1 g2 g3 g4 g5 hsz hc h h' w T O
  · exact keeps_bad2 u l s0 s1 s2 s3 s4 s5 hd kind sub d a0 a1 a2 a3 a4 a5 e a i c H h0 h1 h2 h3 h4 h5 g0 g1 g2 g3 g4 g5 hsz hc h w T O
  · exact keeps_bad8 u l s0 s1 s2 s3 s4 s5 hd kind sub d a0 a1 a2 a3 a4 a5 e a i c H h0 h1 h2 h3 h4 h5 g0 g1 g2 g3 g4 g5 hsz hc h w T O
end Go.Proofs.YtdmaekiejdahoaaDoor.deferralKeeps
