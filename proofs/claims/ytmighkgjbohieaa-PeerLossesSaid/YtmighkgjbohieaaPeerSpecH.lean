/-
  peer.Handle's contract for all arguments.
-/
import Derived.Test.YtmighkgjbohieaaPeerSpec
set_option linter.unusedVariables false
set_option linter.unusedSimpArgs false
namespace Go.Proofs.Ytmighkgjbohieaa
open Go.ChangeShapes Go.WideShapes Go.ChangeAt Go.RowKit Go.Great

/-- v is a slice that reads as the bytes m. -/
def MsgIn (w : World) (v : Value) (m : List Int) : Prop :=
  ∃ ao cap, v = .slice ao m.length cap ∧ m.length ≤ cap ∧ (∀ x ∈ m, 0 ≤ x ∧ x ≤ 255) ∧ (m ≠ [] → ∃ mb mo, ao = some ⟨mb, mo, none⟩ ∧ ∀ (i : Nat) (x : Int), m[i]? = some x → w.cell? ⟨mb, mo + i, none⟩ = some (.int .u8 x))

theorem fit_yes {r : Res} (h : r.2.2 = 0) : fitR r = (r.1, r.2.1, 0) := by simp only [fitR, h, if_true]; rw [← h]
theorem fit_no {r : Res} (h : ¬ r.2.2 = 0) : fitR r = (zeroLk, [], r.2.2) := by simp only [fitR, if_neg h, errR]
set_option maxHeartbeats 1000000 in
theorem handle_any (k : Lk) (hB : k.By) (now : Int) (v : Value) (m : List Int) (w : World) (hm : MsgIn w v m) : Calls Try.prog 20 #[.agg k.cells, v, .int .i64 now] w (RetR w (pHandle k m now)) := by
  obtain ⟨ao, cap, rfl, hcap, hby, hc⟩ := hm
  rcases chk_two k with h | h
  · by_cases ht : tinB now = true
    · obtain ⟨n0, n1⟩ := tin_in ht
      have hv := chk_val h
      have hI := hv.toIn
      by_cases hl : m.length < 5
      · rw [retR (show pHandle k m now = _ by rw [pHandle, guard_ok h ht, if_pos hl, errR])]
        exact handle_short k hB now h ht n0 n1 hI ao m.length cap hl w
      · obtain ⟨mb, mo, rfl, hcell⟩ := hc (fun e => hl (by rw [e]; decide))
        match m, hl, hcap, hby, hcell with
        | [], hl, _, _, _ => exact absurd (by simp) hl
        | [_], hl, _, _, _ => exact absurd (by simp) hl
        | [_, _], hl, _, _, _ => exact absurd (by simp) hl
        | [_, _, _], hl, _, _, _ => exact absurd (by simp) hl
        | [_, _, _, _], hl, _, _, _ => exact absurd (by simp) hl
        | x0 :: x1 :: x2 :: x3 :: x4 :: rest, hl, hcap, hby, hcell =>
          have b0 := hby x0 (by simp)
          have b1 := hby x1 (by simp)
          have b2 := hby x2 (by simp)
          have b3 := hby x3 (by simp)
          have b4 := hby x4 (by simp)
          have m0 : w.cell? ⟨mb, mo, none⟩ = some (.int .u8 x0) := hcell 0 x0 rfl
          have m1 := hcell 1 x1 rfl
          have m2 := hcell 2 x2 rfl
          have m3 := hcell 3 x3 rfl
          have m4 := hcell 4 x4 rfl
          have hA := or_bytes x1 x2 b1 b2
          have hC := or_bytes x3 x4 b3 b4
          have hc5 : 5 ≤ cap := by simp only [List.length_cons] at hcap; omega
          have eA : msgA (x0 :: x1 :: x2 :: x3 :: x4 :: rest) = x1 + 256 * x2 := rfl
          have eC : msgC (x0 :: x1 :: x2 :: x3 :: x4 :: rest) = x3 + 256 * x4 := rfl
          have e0 : (x0 :: x1 :: x2 :: x3 :: x4 :: rest).getD 0 0 = x0 := rfl
          have hP : ∀ r, (badM (x0 :: x1 :: x2 :: x3 :: x4 :: rest) = true → r = errR 12) → (badM (x0 :: x1 :: x2 :: x3 :: x4 :: rest) = false → r = (if x0 = 1 then pOpened k (x1 + 256 * x2) now else if x0 = 2 then fitR (pConf k (x1 + 256 * x2) (x3 + 256 * x4) now) else fitR (pClosed k (x1 + 256 * x2) (x3 + 256 * x4) now))) → pHandle k (x0 :: x1 :: x2 :: x3 :: x4 :: rest) now = r := by
            intro r h1 h2
            rw [pHandle, guard_ok h ht, if_neg hl]
            by_cases hb : badM (x0 :: x1 :: x2 :: x3 :: x4 :: rest) = true
            · rw [if_pos hb, h1 hb]
            · rw [if_neg hb, e0, eA, eC, h2 (by simpa using hb)]
          have hbad : ∀ p : (5 < (x0 :: x1 :: x2 :: x3 :: x4 :: rest).length ∨ x0 < 1 ∨ 3 < x0 ∨ x1 + 256 * x2 = 0 ∨ (x0 = 1 ∧ x3 + 256 * x4 ≠ 0)), pHandle k (x0 :: x1 :: x2 :: x3 :: x4 :: rest) now = (zeroLk, [], 12) := fun p =>
            hP _ (fun _ => rfl) (fun hb => by rw [badM, e0, eA, eC, decide_eq_false_iff_not] at hb; exact absurd p hb)
          cases rest with
          | cons y ys =>
            rw [retR (hbad (.inl (by simp)))]
            exact handle_long k hB now h ht n0 n1 hI mb mo cap x0 x1 x2 x3 x4 b0 b1 b2 b3 b4 hc5 _ _ hA hC _ (by simp) (by simpa using hcap) w m0 m1 m2 m3 m4
          | nil =>
            by_cases k0 : x0 < 1
            · rw [retR (hbad (.inr (.inl k0)))]
              exact handle_low k hB now h ht n0 n1 hI mb mo cap x0 x1 x2 x3 x4 b0 b1 b2 b3 b4 hc5 _ _ hA hC k0 w m0 m1 m2 m3 m4
            by_cases k1 : 3 < x0
            · rw [retR (hbad (.inr (.inr (.inl k1))))]
              exact handle_high k hB now h ht n0 n1 hI mb mo cap x0 x1 x2 x3 x4 b0 b1 b2 b3 b4 hc5 _ _ hA hC k1 (by omega) w m0 m1 m2 m3 m4
            by_cases k2 : x1 + 256 * x2 = 0
            · rw [retR (hbad (.inr (.inr (.inr (.inl k2)))))]
              exact handle_zero k hB now h ht n0 n1 hI mb mo cap x0 x1 x2 x3 x4 b0 b1 b2 b3 b4 hc5 _ _ hA hC (by omega) (by omega) (by simpa using k2) w m0 m1 m2 m3 m4
            by_cases k3 : x0 = 1 ∧ x3 + 256 * x4 ≠ 0
            · rw [retR (hbad (.inr (.inr (.inr (.inr k3)))))]
              exact handle_open_to k hB now h ht n0 n1 hI mb mo cap x0 x1 x2 x3 x4 b0 b1 b2 b3 b4 hc5 _ _ hA hC (by simpa using k3.1) (by omega) (by omega) (by simpa using k2) (by simpa using k3.2) w m0 m1 m2 m3 m4
            have hok : badM [x0, x1, x2, x3, x4] = false := by
              rw [badM, e0, eA, eC, decide_eq_false_iff_not]
              simp only [List.length_cons, List.length_nil]
              omega
            have a1 : 1 ≤ x1 + 256 * x2 := by omega
            have a2 : x1 + 256 * x2 ≤ 65535 := by omega
            have az : (x1 + 256 * x2 == 0) = false := by simpa using k2
            have hgo : pHandle k [x0, x1, x2, x3, x4] now = _ := hP _ (fun hb => by rw [hok] at hb; cases hb) (fun _ => rfl)
            by_cases q1 : x0 = 1
            · subst q1
              rw [if_pos rfl] at hgo
              rw [hgo]
              have cz : (x3 + 256 * x4 == 0) = true := by simp; omega
              have hz : (pOpened k (x1 + 256 * x2) now).2.2 = 0 := by simp only [pOpened]; repeat (first | rfl | split)
              show Calls _ _ _ w (Ret3 w _ _ _)
              rw [hz]
              exact handle_open k hB now h ht n0 n1 hI mb mo cap x1 x2 x3 x4 b1 b2 b3 b4 hc5 _ _ hA hC az cz _ _ (fun W b hE => opened_any b k now hv n0 n1 _ a1 a2 W hE) w m0 m1 m2 m3 m4
            rw [if_neg q1] at hgo
            by_cases q2 : x0 = 2
            · subst q2
              rw [if_pos rfl] at hgo
              rw [hgo]
              by_cases hz : (pConf k (x1 + 256 * x2) (x3 + 256 * x4) now).2.2 = 0
              · rw [retR (fit_yes hz)]
                exact handle_confirmed k hB now h ht n0 n1 hI mb mo cap x1 x2 x3 x4 b1 b2 b3 b4 hc5 _ _ hA hC az _ _ (fun W b hE => by have := conf_any b k now hv n0 n1 _ (x3 + 256 * x4) a1 a2 W hE; rw [hz] at this; exact this) w m0 m1 m2 m3 m4
              · rw [retR (fit_no hz)]
                exact handle_confirmed_err k hB now h ht n0 n1 hI mb mo cap x1 x2 x3 x4 b1 b2 b3 b4 hc5 _ _ hA hC az _ (by simpa using hz) _ _ (fun W b hE => conf_any b k now hv n0 n1 _ (x3 + 256 * x4) a1 a2 W hE) w m0 m1 m2 m3 m4
            · obtain rfl : x0 = 3 := by omega
              rw [if_neg q2] at hgo
              rw [hgo]
              by_cases hz : (pClosed k (x1 + 256 * x2) (x3 + 256 * x4) now).2.2 = 0
              · rw [retR (fit_yes hz)]
                exact handle_closed k hB now h ht n0 n1 hI mb mo cap x1 x2 x3 x4 b1 b2 b3 b4 hc5 _ _ hA hC az _ _ (fun W b hE => by have := closed_any b k now hv n0 n1 _ (x3 + 256 * x4) a1 a2 W hE; rw [hz] at this; exact this) w m0 m1 m2 m3 m4
              · rw [retR (fit_no hz)]
                exact handle_closed_err k hB now h ht n0 n1 hI mb mo cap x1 x2 x3 x4 b1 b2 b3 b4 hc5 _ _ hA hC az _ (by simpa using hz) _ _ (fun W b hE => closed_any b k now hv n0 n1 _ (x3 + 256 * x4) a1 a2 W hE) w m0 m1 m2 m3 m4
    · rw [retR (show pHandle k m now = _ by rw [pHandle, guard_arg h ht, errR])]
      exact handle_arg k hB now h (by simpa [tinB] using ht) ao m.length cap w
  · rw [retR (show pHandle k m now = _ by rw [pHandle, guard_bad h, errR])]
    exact handle_bad k hB now h ao m.length cap w
end Go.Proofs.Ytmighkgjbohieaa
