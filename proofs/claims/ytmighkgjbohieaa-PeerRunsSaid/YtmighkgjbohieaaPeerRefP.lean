/-
  The reference's Handle for all arguments: what peer's comes to.
-/
import Derived.Test.YtmighkgjbohieaaPeerRefL
import Derived.Test.YtmighkgjbohieaaPeerRefM
import Derived.Test.YtmighkgjbohieaaPeerRefN
set_option linter.unusedVariables false
set_option linter.unusedSimpArgs false
namespace Go.Proofs.Ytmighkgjbohieaa
open Go.ChangeShapes Go.WideShapes Go.ChangeAt Go.RowKit Go.Great

theorem beq_no {a b : Int} (h : ¬ a = b) : (a == b) = false := by simpa using h
theorem beq_yes {a b : Int} (h : a = b) : (a == b) = true := by simpa using h
set_option maxHeartbeats 4000000 in
theorem rhandle_any (k : Lk) (hB : k.By) (hz : 0 ≤ k.st) (now : Int) (v : Value) (m : List Int) (w : World) (hm : MsgIn w v m) : Calls Try.prog 30 #[.agg k.cells, v, .int .i64 now] w (RetR w (pHandle k m now)) := by
  obtain ⟨ao, cap, rfl, hcap, hby, hc⟩ := hm
  rcases chk_two k with h | h
  · by_cases ht : tinB now = true
    · obtain ⟨n0, n1⟩ := tin_in ht
      have hv := chk_val h
      have s0 := hv.st0
      have s5 := hv.st5
      have o0 := hv.ot0
      by_cases hl : m.length < 5
      · rw [retR (show pHandle k m now = _ by rw [pHandle, guard_ok h ht, if_pos hl, errR])]
        exact rhandle_short k hB hz now h ht ao m.length cap hl w
      · obtain ⟨mb, mo, rfl, hcell⟩ := hc (fun e => hl (by rw [e]; decide))
        match m, hl, hcap, hby, hcell with
        | [], hl, _, _, _ => exact absurd (by simp) hl
        | [_], hl, _, _, _ => exact absurd (by simp) hl
        | [_, _], hl, _, _, _ => exact absurd (by simp) hl
        | [_, _, _], hl, _, _, _ => exact absurd (by simp) hl
        | [_, _, _, _], hl, _, _, _ => exact absurd (by simp) hl
        | x0 :: x1 :: x2 :: x3 :: x4 :: rest, hl, hcap, hby, hcell =>
          have b0 := hby x0 (by simp)
          have b1 := hby x1 (by simp)
          have b2 := hby x2 (by simp)
          have b3 := hby x3 (by simp)
          have b4 := hby x4 (by simp)
          have m0 : w.cell? ⟨mb, mo, none⟩ = some (.int .u8 x0) := hcell 0 x0 rfl
          have m1 := hcell 1 x1 rfl
          have m2 := hcell 2 x2 rfl
          have m3 := hcell 3 x3 rfl
          have m4 := hcell 4 x4 rfl
          have hc5 : 5 ≤ cap := by simp only [List.length_cons] at hcap; omega
          have eA : msgA (x0 :: x1 :: x2 :: x3 :: x4 :: rest) = x1 + 256 * x2 := rfl
          have eC : msgC (x0 :: x1 :: x2 :: x3 :: x4 :: rest) = x3 + 256 * x4 := rfl
          have e0 : (x0 :: x1 :: x2 :: x3 :: x4 :: rest).getD 0 0 = x0 := rfl
          have hP : ∀ r, (badM (x0 :: x1 :: x2 :: x3 :: x4 :: rest) = true → r = errR 12) → (badM (x0 :: x1 :: x2 :: x3 :: x4 :: rest) = false → r = (if x0 = 1 then pOpened k (x1 + 256 * x2) now else if x0 = 2 then fitR (pConf k (x1 + 256 * x2) (x3 + 256 * x4) now) else fitR (pClosed k (x1 + 256 * x2) (x3 + 256 * x4) now))) → pHandle k (x0 :: x1 :: x2 :: x3 :: x4 :: rest) now = r := by
            intro r h1 h2
            rw [pHandle, guard_ok h ht, if_neg hl]
            by_cases hb : badM (x0 :: x1 :: x2 :: x3 :: x4 :: rest) = true
            · rw [if_pos hb, h1 hb]
            · rw [if_neg hb, e0, eA, eC, h2 (by simpa using hb)]
          have hbad : ∀ p : (5 < (x0 :: x1 :: x2 :: x3 :: x4 :: rest).length ∨ x0 < 1 ∨ 3 < x0 ∨ x1 + 256 * x2 = 0 ∨ (x0 = 1 ∧ x3 + 256 * x4 ≠ 0)), pHandle k (x0 :: x1 :: x2 :: x3 :: x4 :: rest) now = (zeroLk, [], 12) := fun p =>
            hP _ (fun _ => rfl) (fun hb => by rw [badM, e0, eA, eC, decide_eq_false_iff_not] at hb; exact absurd p hb)
          cases rest with
          | cons y ys =>
            rw [retR (hbad (.inl (by simp)))]
            exact rhandle_long k hB hz now h ht mb mo cap x0 x1 x2 x3 x4 b0 b1 b2 b3 b4 hc5 _ _ rfl rfl _ (by simp) (by simpa using hcap) w m0 m1 m2 m3 m4
          | nil =>
            by_cases k0 : x0 < 1
            · rw [retR (hbad (.inr (.inl k0)))]
              exact rhandle_low k hB hz now h ht mb mo cap x0 x1 x2 x3 x4 b0 b1 b2 b3 b4 hc5 _ _ rfl rfl k0 w m0 m1 m2 m3 m4
            by_cases k1 : 3 < x0
            · rw [retR (hbad (.inr (.inr (.inl k1))))]
              exact rhandle_high k hB hz now h ht mb mo cap x0 x1 x2 x3 x4 b0 b1 b2 b3 b4 hc5 _ _ rfl rfl k1 (by omega) w m0 m1 m2 m3 m4
            by_cases k2 : x1 + 256 * x2 = 0
            · rw [retR (hbad (.inr (.inr (.inr (.inl k2)))))]
              exact rhandle_zero k hB hz now h ht mb mo cap x0 x1 x2 x3 x4 b0 b1 b2 b3 b4 hc5 _ _ rfl rfl (by omega) (by omega) (beq_yes k2) w m0 m1 m2 m3 m4
            by_cases k3 : x0 = 1 ∧ x3 + 256 * x4 ≠ 0
            · rw [retR (hbad (.inr (.inr (.inr (.inr k3)))))]
              exact rhandle_opento k hB hz now h ht mb mo cap x0 x1 x2 x3 x4 b0 b1 b2 b3 b4 hc5 _ _ rfl rfl (beq_yes k3.1) (by omega) (by omega) (beq_no k2) (beq_no k3.2) w m0 m1 m2 m3 m4
            have hok : badM [x0, x1, x2, x3, x4] = false := by
              rw [badM, e0, eA, eC, decide_eq_false_iff_not]
              simp only [List.length_cons, List.length_nil]
              omega
            have a1 : 1 ≤ x1 + 256 * x2 := by omega
            have a2 : x1 + 256 * x2 ≤ 65535 := by omega
            have az := beq_no k2
            have hgo : pHandle k [x0, x1, x2, x3, x4] now = _ := hP _ (fun hb => by rw [hok] at hb; cases hb) (fun _ => rfl)
            obtain ⟨a, ha⟩ : ∃ a, x1 + 256 * x2 = a := ⟨_, rfl⟩
            obtain ⟨c, hcc⟩ : ∃ c, x3 + 256 * x4 = c := ⟨_, rfl⟩
            rw [ha, hcc] at hgo
            rw [ha] at a1 a2 az
            by_cases q1 : x0 = 1
            · subst q1
              have cz : (c == 0) = true := beq_yes (by omega)
              rw [if_pos rfl] at hgo
              rw [hgo]
              by_cases h5 : k.st = 5
              · rw [retR (show pOpened k a now = _ by rw [pOpened, if_pos h5])]
                exact rhandle_hold1 k hB hz now h ht mb mo cap x1 x2 x3 x4 b1 b2 b3 b4 hc5 a c ha hcc az cz h5 w m0 m1 m2 m3 m4
              · have hz0 : (pOpened k a now).2.2 = 0 := by simp only [pOpened]; repeat (first | rfl | split)
                exact rhandle_open k hB hz now h ht mb mo cap x1 x2 x3 x4 b1 b2 b3 b4 hc5 a c ha hcc az cz (beq_no h5) h5 a1 a2 _ _ (by rw [← hz0]) w m0 m1 m2 m3 m4 |>.mono fun e w' q => by
                  show Ret3 w _ _ _ e w'
                  rw [hz0]
                  exact q
            rw [if_neg q1] at hgo
            by_cases q2 : x0 = 2
            · subst q2
              rw [if_pos rfl] at hgo
              rw [hgo]
              by_cases hs0 : k.st = 0
              · rw [retR (show fitR (pConf k a c now) = _ by rw [pConf, if_pos hs0])]
                exact rhandle_idle2 k hB hz now h ht mb mo cap x1 x2 x3 x4 b1 b2 b3 b4 hc5 a c ha hcc az (beq_yes hs0) w m0 m1 m2 m3 m4
              by_cases h5 : k.st = 5
              · rw [retR (show fitR (pConf k a c now) = _ by rw [pConf, if_neg hs0, if_pos h5])]
                exact rhandle_hold2 k hB hz now h ht mb mo cap x1 x2 x3 x4 b1 b2 b3 b4 hc5 a c ha hcc az h5 w m0 m1 m2 m3 m4
              by_cases hid : c = k.id
              · by_cases hun : k.ot ≠ 0 ∧ a ≠ k.ot
                · rw [retR (show fitR (pConf k a c now) = _ by rw [pConf, if_neg hs0, if_neg h5, if_pos (.inr hun)])]
                  exact rhandle_stale2b k hB hz now h ht mb mo cap x1 x2 x3 x4 b1 b2 b3 b4 hc5 a c ha hcc az (beq_no hs0) (beq_no h5) (beq_yes hid) (beq_no hun.1) (beq_no (fun e => hun.2 e.symm)) w m0 m1 m2 m3 m4
                have hn : ¬ (c ≠ k.id ∨ (k.ot ≠ 0 ∧ a ≠ k.ot)) := by omega
                by_cases hs1 : k.st = 1
                · rw [retR (show fitR (pConf k a c now) = _ by rw [pConf, if_neg hs0, if_neg h5, if_neg hn, if_pos hs1])]
                  exact rhandle_sent k hB hz now h ht mb mo cap x1 x2 x3 x4 b1 b2 b3 b4 hc5 a c ha hcc az hs1 (beq_yes hid) (beq_yes (hv.none (by omega))) w m0 m1 m2 m3 m4
                have hot := hv.some (by omega) (by omega)
                by_cases hs2 : k.st = 2
                · rw [retR (show fitR (pConf k a c now) = _ by rw [pConf, if_neg hs0, if_neg h5, if_neg hn, if_neg hs1, if_pos hs2])]
                  exact rhandle_got k hB hz now h ht mb mo cap x1 x2 x3 x4 b1 b2 b3 b4 hc5 a c ha hcc az hs2 (beq_yes hid) (beq_no (by omega)) (beq_yes (by omega)) w m0 m1 m2 m3 m4
                · rw [retR (show fitR (pConf k a c now) = _ by rw [pConf, if_neg hs0, if_neg h5, if_neg hn, if_neg hs1, if_neg hs2])]
                  exact rhandle_rest k hB hz now h ht mb mo cap x1 x2 x3 x4 b1 b2 b3 b4 hc5 a c ha hcc az (beq_no hs0) (beq_no h5) (beq_no hs1) (beq_no hs2) (beq_yes hid) (beq_no (by omega)) (beq_yes (by omega)) w m0 m1 m2 m3 m4
              · rw [retR (show fitR (pConf k a c now) = _ by rw [pConf, if_neg hs0, if_neg h5, if_pos (.inl hid)])]
                exact rhandle_stale2a k hB hz now h ht mb mo cap x1 x2 x3 x4 b1 b2 b3 b4 hc5 a c ha hcc az (beq_no hs0) (beq_no h5) (beq_no hid) w m0 m1 m2 m3 m4
            · obtain rfl : x0 = 3 := by omega
              rw [if_neg q2] at hgo
              rw [hgo]
              by_cases hs0 : k.st = 0
              · rw [retR (show fitR (pClosed k a c now) = _ by rw [pClosed, if_pos hs0])]
                exact rhandle_idle3 k hB hz now h ht mb mo cap x1 x2 x3 x4 b1 b2 b3 b4 hc5 a c ha hcc az (beq_yes hs0) w m0 m1 m2 m3 m4
              by_cases hid : c ≠ 0 ∧ c ≠ k.id
              · rw [retR (show fitR (pClosed k a c now) = _ by rw [pClosed, if_neg hs0, if_pos (.inl hid)])]
                exact rhandle_stale3a k hB hz now h ht mb mo cap x1 x2 x3 x4 b1 b2 b3 b4 hc5 a c ha hcc az (beq_no hs0) (beq_no hid.1) (beq_no hid.2) w m0 m1 m2 m3 m4
              by_cases hun : k.ot ≠ 0 ∧ a ≠ k.ot
              · rw [retR (show fitR (pClosed k a c now) = _ by rw [pClosed, if_neg hs0, if_pos (.inr hun)])]
                by_cases hc0 : c = 0
                · exact rhandle_stale3b0 k hB hz now h ht mb mo cap x1 x2 x3 x4 b1 b2 b3 b4 hc5 a c ha hcc az (beq_no hs0) (beq_yes hc0) (beq_no hun.1) (beq_no (fun e => hun.2 e.symm)) w m0 m1 m2 m3 m4
                · exact rhandle_stale3b1 k hB hz now h ht mb mo cap x1 x2 x3 x4 b1 b2 b3 b4 hc5 a c ha hcc az (beq_no hs0) (beq_no hc0) (beq_yes (by omega)) (beq_no hun.1) (beq_no (fun e => hun.2 e.symm)) w m0 m1 m2 m3 m4
              have hn : ¬ ((c ≠ 0 ∧ c ≠ k.id) ∨ (k.ot ≠ 0 ∧ a ≠ k.ot)) := by omega
              by_cases h5 : k.st = 5
              · have hf : finK k = endK k := by have := hv.idle (.inr (.inr h5)); simp only [finK, endK, this]
                rw [retR (show fitR (pClosed k a c now) = (endK k, [], 0) by rw [pClosed, if_neg hs0, if_neg hn, if_pos h5, hf]; rfl)]
                by_cases hc0 : c = 0
                · by_cases ho : k.ot = 0
                  · exact rhandle_end00 k hB hz now h ht mb mo cap x1 x2 x3 x4 b1 b2 b3 b4 hc5 a c ha hcc az h5 (beq_yes hc0) (beq_yes ho) w m0 m1 m2 m3 m4
                  · exact rhandle_end01 k hB hz now h ht mb mo cap x1 x2 x3 x4 b1 b2 b3 b4 hc5 a c ha hcc az h5 (beq_yes hc0) (beq_no ho) (beq_yes (by omega)) w m0 m1 m2 m3 m4
                · by_cases ho : k.ot = 0
                  · exact rhandle_end10 k hB hz now h ht mb mo cap x1 x2 x3 x4 b1 b2 b3 b4 hc5 a c ha hcc az h5 (beq_no hc0) (beq_yes (by omega)) (beq_yes ho) w m0 m1 m2 m3 m4
                  · exact rhandle_end11 k hB hz now h ht mb mo cap x1 x2 x3 x4 b1 b2 b3 b4 hc5 a c ha hcc az h5 (beq_no hc0) (beq_yes (by omega)) (beq_no ho) (beq_yes (by omega)) w m0 m1 m2 m3 m4
              · rw [retR (show fitR (pClosed k a c now) = (clK k now, [msgOf 3 k.id k.ot], 0) by rw [pClosed, if_neg hs0, if_neg hn, if_neg h5]; rfl)]
                by_cases hc0 : c = 0
                · by_cases ho : k.ot = 0
                  · exact rhandle_shut00 k hB hz now h ht mb mo cap x1 x2 x3 x4 b1 b2 b3 b4 hc5 a c ha hcc az (beq_no hs0) (beq_no h5) (beq_yes hc0) (beq_yes ho) w m0 m1 m2 m3 m4
                  · exact rhandle_shut01 k hB hz now h ht mb mo cap x1 x2 x3 x4 b1 b2 b3 b4 hc5 a c ha hcc az (beq_no hs0) (beq_no h5) (beq_yes hc0) (beq_no ho) (beq_yes (by omega)) w m0 m1 m2 m3 m4
                · by_cases ho : k.ot = 0
                  · exact rhandle_shut10 k hB hz now h ht mb mo cap x1 x2 x3 x4 b1 b2 b3 b4 hc5 a c ha hcc az (beq_no hs0) (beq_no h5) (beq_no hc0) (beq_yes (by omega)) (beq_yes ho) w m0 m1 m2 m3 m4
                  · exact rhandle_shut11 k hB hz now h ht mb mo cap x1 x2 x3 x4 b1 b2 b3 b4 hc5 a c ha hcc az (beq_no hs0) (beq_no h5) (beq_no hc0) (beq_yes (by omega)) (beq_no ho) (beq_yes (by omega)) w m0 m1 m2 m3 m4
    · rw [retR (show pHandle k m now = _ by rw [pHandle, guard_arg h ht, errR])]
      exact rhandle_arg k hB hz now h (by simpa using ht) ao m.length cap w
  · rw [retR (show pHandle k m now = _ by rw [pHandle, guard_bad h, errR])]
    exact rhandle_bad k hB hz now h ao m.length cap w
end Go.Proofs.Ytmighkgjbohieaa
