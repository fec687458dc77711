/-
  Slices of events and of ints among a law's arguments: their cells.
-/
import Derived.Test.YtmighkgjbohieaaPeerGreat
import Derived.Deep.Slices
import Derived.ChangeSame
set_option linter.unusedVariables false
set_option linter.unusedSimpArgs false
namespace Go.Proofs.Ytmighkgjbohieaa
open Go.ChangeShapes Go.WideShapes Go.ChangeAt Go.RowKit Go.Great

instance : Inhabited Ev := ⟨⟨0, 0, 0, 0⟩⟩
theorem c56 : Try.prog.cellsOf 56 = 4 := by kernel_rfl
theorem c5 : Try.prog.cellsOf 5 = 1 := by kernel_rfl
theorem c3 : Try.prog.cellsOf 3 = 1 := by kernel_rfl
theorem wf8 {n : Int} (h : (Lit.int .u8 n).wf = true) : 0 ≤ n ∧ n ≤ 255 := bounds_u8 h
theorem wf64 {n : Int} (h : (Lit.int .i64 n).wf = true) : -9223372036854775808 ≤ n ∧ n ≤ 9223372036854775807 := bounds_i64 h
theorem ev_open {H : Type} {enc : TypeId × Value → H} {W : World} {v : Value} {d : DataW H} {p : List MemPlace} (hs : ∃ a l c, v = .slice a l c) (h : DataW.Trod enc Try.prog W 0 (fun _ => true) true 22 v d p) : ∃ n E, EvIn W v n E := by
  obtain ⟨a0, l0, c0, rfl⟩ := hs
  obtain ⟨fuel, hf⟩ := h
  rcases Deep.open_slice Try.underlying22 hf with ⟨hcs, _⟩ | ⟨a, len, cap, m, n, D, Pl, hcs, hb, hl, hm, hmm, _, hx⟩
  · simp [Value.cells] at hcs
    obtain ⟨rfl, rfl, rfl⟩ := hcs
    exact ⟨0, fun _ => ⟨0, 0, 0, 0⟩, none, 0, rfl, Nat.le_refl _, by unfold maxLen; decide, fun h => absurd h (by decide)⟩
  · simp [Value.cells] at hcs
    obtain ⟨rfl, rfl, rfl⟩ := hcs
    simp only [if_true] at hmm
    subst hmm
    obtain ⟨b, off, spot⟩ := a
    by_cases hl0 : l0 = 0
    · subst hl0
      exact ⟨0, fun _ => ⟨0, 0, 0, 0⟩, _, _, rfl, hl, hm, fun h => absurd h (by decide)⟩
    have hspot : spot = none := by
      obtain ⟨cs', h1, _⟩ := hx 0 (by omega)
      rw [c56] at h1
      obtain ⟨_, hlen, hcell⟩ := World.cells?_some h1
      have q0 := hcell 0 (by decide)
      rw [List.getElem?_eq_getElem (by omega)] at q0
      simpa [Addr.add] using World.cell?_spot q0
    subst hspot
    have each : ∀ i, i < l0 → ∃ e : Ev, W.cell? ⟨b, off + i * 4, none⟩ = some (.int .u8 e.kd) ∧ W.cell? ⟨b, off + i * 4 + 1, none⟩ = some (.int .u8 e.tt) ∧ W.cell? ⟨b, off + i * 4 + 2, none⟩ = some (.int .i64 e.wh) ∧ W.cell? ⟨b, off + i * 4 + 3, none⟩ = some (.int .i64 e.wt) ∧
        (0 ≤ e.kd ∧ e.kd ≤ 255) ∧ (0 ≤ e.tt ∧ e.tt ≤ 255) ∧ (-9223372036854775808 ≤ e.wh ∧ e.wh ≤ 9223372036854775807) ∧ (-9223372036854775808 ≤ e.wt ∧ e.wt ≤ 9223372036854775807) := by
      intro i hi
      obtain ⟨cs', h1, h2⟩ := hx i (by omega)
      rw [c56] at h1
      obtain ⟨_, hlen, hcell⟩ := World.cells?_some h1
      obtain ⟨xs, k, _, _, _, hxl, hfld⟩ := DataW.trod_struct Try.underlying56 h2
      match cs', hlen with
      | [y0, y1, y2, y3], _ =>
        have g0 := hfld 0 _ rfl
        have g1 := hfld 1 _ rfl
        have g2 := hfld 2 _ rfl
        have g3 := hfld 3 _ rfl
        have hl4 : xs.length = 4 := hxl
        match xs, hl4 with
        | [z0, z1, z2, z3], _ =>
          simp [c5, c3] at g0 g1 g2 g3
          obtain ⟨m0, e0, _, w0⟩ := DataW.trod_int Try.underlying5 g0
          obtain ⟨m1, e1, _, w1⟩ := DataW.trod_int Try.underlying5 g1
          obtain ⟨m2, e2, _, w2⟩ := DataW.trod_int Try.underlying3 g2
          obtain ⟨m3, e3, _, w3⟩ := DataW.trod_int Try.underlying3 g3
          cases e0
          cases e1
          cases e2
          cases e3
          have q0 := hcell 0 (by decide)
          have q1 := hcell 1 (by decide)
          have q2 := hcell 2 (by decide)
          have q3 := hcell 3 (by decide)
          simp only [List.getElem?_cons_zero, List.getElem?_cons_succ] at q0 q1 q2 q3
          rw [Addr.add_mid, Addr.add_mid] at q0 q1 q2 q3
          exact ⟨⟨m0, m1, m2, m3⟩, q0, q1, q2, q3, wf8 w0, wf8 w1, wf64 w2, wf64 w3⟩
    obtain ⟨E, hE⟩ := Deep.choose_lt each
    refine ⟨l0, E, _, _, rfl, hl, hm, fun h0 => ?_⟩
    exact ⟨b, off, rfl, fun i hi => hE i hi⟩
/-- v is a slice that reads as these ints. -/
def IntsIn (w : World) (v : Value) (n : Nat) (Z : Nat → Int) : Prop :=
  ∃ ao cap, v = .slice ao n cap ∧ n ≤ cap ∧ cap ≤ maxLen ∧ (0 < n → ∃ b o, ao = some ⟨b, o, none⟩ ∧ ∀ i, i < n → w.cell? ⟨b, o + i, none⟩ = some (.int .i64 (Z i)) ∧ (-9223372036854775808 ≤ Z i ∧ Z i ≤ 9223372036854775807))
theorem ints_open {H : Type} {enc : TypeId × Value → H} {W : World} {v : Value} {d : DataW H} {p : List MemPlace} (hs : ∃ a l c, v = .slice a l c) (h : DataW.Trod enc Try.prog W 0 (fun _ => true) true 47 v d p) : ∃ n Z, IntsIn W v n Z := by
  obtain ⟨a0, l0, c0, rfl⟩ := hs
  obtain ⟨fuel, hf⟩ := h
  rcases open_ints Try.underlying47 Try.underlying3 c3 hf with ⟨hcs, _⟩ | ⟨a, len, cap, zs, hcs, hb, hl, hm, hzl, _, hcell, hwf⟩
  · simp [Value.cells] at hcs
    obtain ⟨rfl, rfl, rfl⟩ := hcs
    exact ⟨0, fun _ => 0, none, 0, rfl, Nat.le_refl _, by unfold maxLen; decide, fun h => absurd h (by decide)⟩
  · simp [Value.cells] at hcs
    obtain ⟨rfl, rfl, rfl⟩ := hcs
    simp only [if_true] at hzl
    obtain ⟨b, off, spot⟩ := a
    refine ⟨l0, fun i => zs.getD i 0, _, _, rfl, hl, hm, fun h0 => ?_⟩
    have hspot : spot = none := by simpa [Addr.add] using World.cell?_spot (hcell 0 (by omega))
    subst hspot
    refine ⟨b, off, rfl, fun i hi => ⟨?_, ?_⟩⟩
    · have := hcell i (by omega)
      rw [Addr.add_mid] at this
      exact this
    · have hi' : i < zs.length := by omega
      have : zs.getD i 0 = zs[i] := by simp [List.getD, List.getElem?_eq_getElem hi']
      show -9223372036854775808 ≤ zs.getD i 0 ∧ zs.getD i 0 ≤ 9223372036854775807
      rw [this]
      exact wf64 (hwf _ (List.getElem_mem hi'))
end Go.Proofs.Ytmighkgjbohieaa
