/-
  Events in memory; the contract of the law's great.
-/
import Derived.Test.YtmighkgjbohieaaPeerAux
import Derived.Deep.Slices
set_option linter.unusedVariables false
set_option linter.unusedSimpArgs false
namespace Go.Proofs.Ytmighkgjbohieaa
open Go.ChangeShapes Go.WideShapes Go.ChangeAt Go.RowKit Go.Great

structure Ev where
  (kd tt wh wt : Int)
/-- v is a slice that reads as these events. -/
def EvIn (w : World) (v : Value) (n : Nat) (E : Nat → Ev) : Prop :=
  ∃ ao cap, v = .slice ao n cap ∧ n ≤ cap ∧ cap ≤ maxLen ∧ (0 < n → ∃ b o, ao = some ⟨b, o, none⟩ ∧ ∀ i, i < n → w.cell? ⟨b, o + i * 4, none⟩ = some (.int .u8 (E i).kd) ∧ w.cell? ⟨b, o + i * 4 + 1, none⟩ = some (.int .u8 (E i).tt) ∧ w.cell? ⟨b, o + i * 4 + 2, none⟩ = some (.int .i64 (E i).wh) ∧ w.cell? ⟨b, o + i * 4 + 3, none⟩ = some (.int .i64 (E i).wt) ∧
    (0 ≤ (E i).kd ∧ (E i).kd ≤ 255) ∧ (0 ≤ (E i).tt ∧ (E i).tt ≤ 255) ∧ (-9223372036854775808 ≤ (E i).wh ∧ (E i).wh ≤ 9223372036854775807) ∧ (-9223372036854775808 ≤ (E i).wt ∧ (E i).wt ≤ 9223372036854775807))
theorem EvIn.below {w w' : World} {v : Value} {n : Nat} {E : Nat → Ev} (h : EvIn w v n E) (hb : Below w.heap.size w w') : EvIn w' v n E := by
  obtain ⟨ao, cap, rfl, h1, h2, h3⟩ := h
  refine ⟨ao, cap, rfl, h1, h2, fun h0 => ?_⟩
  obtain ⟨b, o, e, hc⟩ := h3 h0
  exact ⟨b, o, e, fun i hi => by
    obtain ⟨a1, a2, a3, a4, a5⟩ := hc i hi
    exact ⟨below_kept hb a1, below_kept hb a2, below_kept hb a3, below_kept hb a4, a5⟩⟩
def GoodEv (e : Ev) : Prop := 0 ≤ e.wt ∧ e.wt ≤ 1000000 ∧ 0 ≤ e.wh
def GreatR (n : Nat) (E : Nat → Ev) (w : World) (e : Ending) (w' : World) : Prop := ∃ b, e = .returned (.bool b) ∧ w' = w ∧ (b = false → n ≤ 100 ∧ ∀ i, i < n → GoodEv (E i))
set_option maxHeartbeats 2000000 in
theorem great_any (v : Value) (n : Nat) (E : Nat → Ev) (w : World) (hE : EvIn w v n E) : Calls Try.prog 12 #[v] w (GreatR n E w) := by
  obtain ⟨ao, cap, rfl, h1, h2, h3⟩ := hE
  have hm : (n : Int) ≤ 9223372036854775807 := by unfold maxLen at h2; omega
  have H3 := Lib.hid h3
  clear h3 h2
  by_cases hn : n ≤ 100
  · have hnz : (n : Int) ≤ 100 := by omega
    go_enter Try.func12, Try.ntmps12
    go_wp2_with fail
    go_loopg [3] n (fun g i wr => ∃ k : Nat, k ≤ n ∧ g = n - k ∧ i = .int .i64 k ∧ wr = w ∧ ∀ j, j < k → GoodEv (E j))
    case atStart => exact ⟨0, by omega, by omega, rfl, rfl, fun j hj => by omega⟩
    case round =>
      obtain ⟨k, hk, rfl, rfl, rfl, hgood⟩ := hrel
      have HG := Lib.hid hgood
      clear hgood
      by_cases hlt : k < n
      · obtain ⟨b, o, rfl, hc⟩ := H3.out (by omega)
        obtain ⟨c0, c1, c2, c3, e0, e1, e2, e3⟩ := hc k hlt
        have HE := Lib.hid (show (E k) = E k from rfl)
        clear hc c0 c1 e0 e1
        have hlz : (k : Int) < n := by omega
        have hk0 : (0 : Int) ≤ k := by omega
        generalize hwt : (E k).wt = wt at *
        generalize hwh : (E k).wh = wh at *
        by_cases b1 : wt < 0
        · go_wp2
          go_ret
          exact ⟨true, rfl, rfl, fun h => by cases h⟩
        · by_cases b2 : 1000000 < wt
          · go_wp2
            go_ret
            exact ⟨true, rfl, rfl, fun h => by cases h⟩
          · by_cases b3 : wh < 0
            · go_wp2
              go_ret
              exact ⟨true, rfl, rfl, fun h => by cases h⟩
            · go_wp2_with fail
              go_roundg (n - (k + 1))
              case measure => omega
              case rel => exact ⟨k + 1, by omega, rfl, rfl, rfl, fun j hj => by
                rcases Nat.lt_or_ge j k with h | h
                · exact HG.out j h
                · obtain rfl : j = k := by omega
                  exact ⟨by omega, by omega, by omega⟩⟩
      · obtain rfl : k = n := by omega
        go_wp2
        go_ret
        exact ⟨false, rfl, rfl, fun _ => ⟨hn, HG.out⟩⟩
  · have hnz : (100 : Int) < n := by omega
    go_enter Try.func12, Try.ntmps12
    go_wp2
    go_ret
    exact ⟨true, rfl, rfl, fun h => by cases h⟩
end Go.Proofs.Ytmighkgjbohieaa
