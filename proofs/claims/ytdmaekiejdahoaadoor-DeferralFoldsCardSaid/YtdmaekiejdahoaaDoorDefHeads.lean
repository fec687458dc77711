/-
  A slice of headers, and one of bytes, among a law's arguments: their cells.
-/
import Derived.Test.YtdmaekiejdahoaaDoorDoorAlive
import Derived.Test.YtdmaekiejdahoaaDoorDoorHeard
import Derived.Deep.Slices
import Derived.Deep.MidRow
import Derived.ChangeSame
set_option linter.unusedVariables false
set_option linter.unusedSimpArgs false
namespace Go.Proofs.YtdmaekiejdahoaaDoor
open Go.ChangeShapes Go.WideShapes Go.ChangeAt Go.RowKit Go.Great

/-- A header's cells, and the fields that matter. -/
structure HdAt (hd : Array Value) (k s d : Int) : Prop where
  size : hd.size = 40
  kind : hd[0]? = some (.int .u8 k)
  sub : hd[1]? = some (.int .u8 s)
  dur : hd[9]? = some (.int .i64 d)
  ones : hd.all (·.oneCell') = true
  kin : 0 ≤ k ∧ k ≤ 255
  sin : 0 ≤ s ∧ s ≤ 255
  din : -9223372036854775808 ≤ d ∧ d ≤ 9223372036854775807
theorem take_one {cs : List Value} {o : Nat} {v : Value} (h : (cs.drop o).take 1 = [v]) : cs[o]? = some v := by
  have h2 : ((cs.drop o).take 1)[0]? = some v := by rw [h]; rfl
  rw [List.getElem?_take] at h2
  simpa using h2
theorem take_at {cs : List Value} {o i : Nat} {v : Value} (hi : i < 6) (h : (((cs.drop o).take 6).drop (i * 1)).take 1 = [v]) : cs[o + i]? = some v := by
  have h2 := take_one h
  rw [Nat.mul_one, List.getElem?_take, if_pos hi, List.getElem?_drop] at h2
  exact h2
theorem hc40 : Tryd.prog.cellsOf 48 = 40 := by kernel_rfl
theorem hc6 : Tryd.prog.cellsOf 46 = 6 := by kernel_rfl
theorem hcu : Tryd.prog.cellsOf 5 = 1 := by kernel_rfl
theorem hci : Tryd.prog.cellsOf 3 = 1 := by kernel_rfl
theorem hcb : Tryd.prog.cellsOf 4 = 1 := by kernel_rfl
section
variable {H : Type} {enc : TypeId × Value → H} {W : World}
theorem one_u8 {fuel : Nat} {cs : List Value} {o : Nat} {x : DataW H × List MemPlace} (h : DataW.trod enc Tryd.prog W 0 (fun _ => true) true fuel 5 ((cs.drop o).take (Tryd.prog.cellsOf 5)) = some x) : ∃ m, cs[o]? = some (.int .u8 m) ∧ 0 ≤ m ∧ m ≤ 255 := by
  rw [hcu] at h
  obtain ⟨m, e, _, hw⟩ := DataW.trod_int Tryd.underlying5 h
  exact ⟨m, take_one e, bounds_u8 hw⟩
theorem one_i64 {fuel : Nat} {cs : List Value} {o : Nat} {x : DataW H × List MemPlace} (h : DataW.trod enc Tryd.prog W 0 (fun _ => true) true fuel 3 ((cs.drop o).take (Tryd.prog.cellsOf 3)) = some x) : ∃ m, cs[o]? = some (.int .i64 m) ∧ -9223372036854775808 ≤ m ∧ m ≤ 9223372036854775807 := by
  rw [hci] at h
  obtain ⟨m, e, _, hw⟩ := DataW.trod_int Tryd.underlying3 h
  exact ⟨m, take_one e, bounds_i64 hw⟩
theorem one_bool {fuel : Nat} {cs : List Value} {o : Nat} {x : DataW H × List MemPlace} (h : DataW.trod enc Tryd.prog W 0 (fun _ => true) true fuel 4 ((cs.drop o).take (Tryd.prog.cellsOf 4)) = some x) : ∃ m, cs[o]? = some (.bool m) := by
  rw [hcb] at h
  obtain ⟨m, e, _⟩ := DataW.trod_bool Tryd.underlying4 h
  exact ⟨m, take_one e⟩
theorem one_addr {fuel : Nat} {cs : List Value} {o : Nat} {x : DataW H × List MemPlace} (h : DataW.trod enc Tryd.prog W 0 (fun _ => true) true fuel 46 ((cs.drop o).take (Tryd.prog.cellsOf 46)) = some x) : ∀ i, i < 6 → ∃ m, cs[o + i]? = some (.int .u8 m) := by
  obtain ⟨xs, k, _, _, _, hxl, hel⟩ := DataW.trod_array Tryd.underlying46 h
  intro i hi
  have he := hel i hi
  rw [List.getElem?_eq_getElem (by omega), hc6, hcu] at he
  obtain ⟨m, e, _⟩ := DataW.trod_int Tryd.underlying5 he
  exact ⟨m, take_at hi e⟩
theorem hd_open {fuel : Nat} {cs : List Value} {x : DataW H × List MemPlace} (h : DataW.trod enc Tryd.prog W 0 (fun _ => true) true fuel 48 cs = some x) : ∃ k s d, HdAt cs.toArray k s d := by
  obtain ⟨xs, n, _, _, hcl, hxl, hfld⟩ := DataW.trod_struct Tryd.underlying48 h
  rw [hc40] at hcl
  have hx : xs.length = 20 := hxl
  have get : ∀ i, i < 20 → ∃ y, xs[i]? = some y := fun i hi => ⟨_, List.getElem?_eq_getElem (by omega)⟩
  obtain ⟨y0, e0⟩ := get 0 (by decide)
  have g0 := hfld 0 _ rfl
  rw [e0] at g0
  obtain ⟨m0, c0, b0⟩ := one_u8 (o := 0) g0
  obtain ⟨y1, e1⟩ := get 1 (by decide)
  have g1 := hfld 1 _ rfl
  rw [e1] at g1
  obtain ⟨m1, c1, b1⟩ := one_u8 (o := 1) g1
  obtain ⟨y2, e2⟩ := get 2 (by decide)
  have g2 := hfld 2 _ rfl
  rw [e2] at g2
  obtain ⟨m2, c2⟩ := one_bool (o := 2) g2
  obtain ⟨y3, e3⟩ := get 3 (by decide)
  have g3 := hfld 3 _ rfl
  rw [e3] at g3
  obtain ⟨m3, c3⟩ := one_bool (o := 3) g3
  obtain ⟨y4, e4⟩ := get 4 (by decide)
  have g4 := hfld 4 _ rfl
  rw [e4] at g4
  obtain ⟨m4, c4⟩ := one_bool (o := 4) g4
  obtain ⟨y5, e5⟩ := get 5 (by decide)
  have g5 := hfld 5 _ rfl
  rw [e5] at g5
  obtain ⟨m5, c5⟩ := one_bool (o := 5) g5
  obtain ⟨y6, e6⟩ := get 6 (by decide)
  have g6 := hfld 6 _ rfl
  rw [e6] at g6
  obtain ⟨m6, c6⟩ := one_bool (o := 6) g6
  obtain ⟨y7, e7⟩ := get 7 (by decide)
  have g7 := hfld 7 _ rfl
  rw [e7] at g7
  obtain ⟨m7, c7⟩ := one_bool (o := 7) g7
  obtain ⟨y8, e8⟩ := get 8 (by decide)
  have g8 := hfld 8 _ rfl
  rw [e8] at g8
  obtain ⟨m8, c8⟩ := one_bool (o := 8) g8
  obtain ⟨y9, e9⟩ := get 9 (by decide)
  have g9 := hfld 9 _ rfl
  rw [e9] at g9
  obtain ⟨m9, c9, b9⟩ := one_i64 (o := 9) g9
  obtain ⟨y10, e10⟩ := get 10 (by decide)
  have g10 := hfld 10 _ rfl
  rw [e10] at g10
  have a10 := one_addr (o := 10) g10
  obtain ⟨m10, c10⟩ := a10 0 (by decide)
  obtain ⟨m11, c11⟩ := a10 1 (by decide)
  obtain ⟨m12, c12⟩ := a10 2 (by decide)
  obtain ⟨m13, c13⟩ := a10 3 (by decide)
  obtain ⟨m14, c14⟩ := a10 4 (by decide)
  obtain ⟨m15, c15⟩ := a10 5 (by decide)
  obtain ⟨y11, e11⟩ := get 11 (by decide)
  have g11 := hfld 11 _ rfl
  rw [e11] at g11
  have a16 := one_addr (o := 16) g11
  obtain ⟨m16, c16⟩ := a16 0 (by decide)
  obtain ⟨m17, c17⟩ := a16 1 (by decide)
  obtain ⟨m18, c18⟩ := a16 2 (by decide)
  obtain ⟨m19, c19⟩ := a16 3 (by decide)
  obtain ⟨m20, c20⟩ := a16 4 (by decide)
  obtain ⟨m21, c21⟩ := a16 5 (by decide)
  obtain ⟨y12, e12⟩ := get 12 (by decide)
  have g12 := hfld 12 _ rfl
  rw [e12] at g12
  have a22 := one_addr (o := 22) g12
  obtain ⟨m22, c22⟩ := a22 0 (by decide)
  obtain ⟨m23, c23⟩ := a22 1 (by decide)
  obtain ⟨m24, c24⟩ := a22 2 (by decide)
  obtain ⟨m25, c25⟩ := a22 3 (by decide)
  obtain ⟨m26, c26⟩ := a22 4 (by decide)
  obtain ⟨m27, c27⟩ := a22 5 (by decide)
  obtain ⟨y13, e13⟩ := get 13 (by decide)
  have g13 := hfld 13 _ rfl
  rw [e13] at g13
  have a28 := one_addr (o := 28) g13
  obtain ⟨m28, c28⟩ := a28 0 (by decide)
  obtain ⟨m29, c29⟩ := a28 1 (by decide)
  obtain ⟨m30, c30⟩ := a28 2 (by decide)
  obtain ⟨m31, c31⟩ := a28 3 (by decide)
  obtain ⟨m32, c32⟩ := a28 4 (by decide)
  obtain ⟨m33, c33⟩ := a28 5 (by decide)
  obtain ⟨y14, e14⟩ := get 14 (by decide)
  have g14 := hfld 14 _ rfl
  rw [e14] at g14
  obtain ⟨m34, c34, b34⟩ := one_i64 (o := 34) g14
  obtain ⟨y15, e15⟩ := get 15 (by decide)
  have g15 := hfld 15 _ rfl
  rw [e15] at g15
  obtain ⟨m35, c35, b35⟩ := one_i64 (o := 35) g15
  obtain ⟨y16, e16⟩ := get 16 (by decide)
  have g16 := hfld 16 _ rfl
  rw [e16] at g16
  obtain ⟨m36, c36, b36⟩ := one_i64 (o := 36) g16
  obtain ⟨y17, e17⟩ := get 17 (by decide)
  have g17 := hfld 17 _ rfl
  rw [e17] at g17
  obtain ⟨m37, c37, b37⟩ := one_u8 (o := 37) g17
  obtain ⟨y18, e18⟩ := get 18 (by decide)
  have g18 := hfld 18 _ rfl
  rw [e18] at g18
  obtain ⟨m38, c38⟩ := one_bool (o := 38) g18
  obtain ⟨y19, e19⟩ := get 19 (by decide)
  have g19 := hfld 19 _ rfl
  rw [e19] at g19
  obtain ⟨m39, c39⟩ := one_bool (o := 39) g19
  have ones : ∀ v ∈ cs, v.oneCell' = true := fun v hv => by
    obtain ⟨j, hj, e⟩ := List.mem_iff_getElem.1 hv
    have ej : cs[j]? = some v := by rw [List.getElem?_eq_getElem hj, e]
    have h40 : j = 0 ∨ j = 1 ∨ j = 2 ∨ j = 3 ∨ j = 4 ∨ j = 5 ∨ j = 6 ∨ j = 7 ∨ j = 8 ∨ j = 9 ∨ j = 10 ∨ j = 11 ∨ j = 12 ∨ j = 13 ∨ j = 14 ∨ j = 15 ∨ j = 16 ∨ j = 17 ∨ j = 18 ∨ j = 19 ∨ j = 20 ∨ j = 21 ∨ j = 22 ∨ j = 23 ∨ j = 24 ∨ j = 25 ∨ j = 26 ∨ j = 27 ∨ j = 28 ∨ j = 29 ∨ j = 30 ∨ j = 31 ∨ j = 32 ∨ j = 33 ∨ j = 34 ∨ j = 35 ∨ j = 36 ∨ j = 37 ∨ j = 38 ∨ j = 39 := by omega
    clear e hv hj
    rcases h40 with rfl | rfl | rfl | rfl | rfl | rfl | rfl | rfl | rfl | rfl | rfl | rfl | rfl | rfl | rfl | rfl | rfl | rfl | rfl | rfl | rfl | rfl | rfl | rfl | rfl | rfl | rfl | rfl | rfl | rfl | rfl | rfl | rfl | rfl | rfl | rfl | rfl | rfl | rfl | rfl
    · rw [show cs[0]? = _ from c0] at ej; cases ej; rfl
    · rw [show cs[1]? = _ from c1] at ej; cases ej; rfl
    · rw [show cs[2]? = _ from c2] at ej; cases ej; rfl
    · rw [show cs[3]? = _ from c3] at ej; cases ej; rfl
    · rw [show cs[4]? = _ from c4] at ej; cases ej; rfl
    · rw [show cs[5]? = _ from c5] at ej; cases ej; rfl
    · rw [show cs[6]? = _ from c6] at ej; cases ej; rfl
    · rw [show cs[7]? = _ from c7] at ej; cases ej; rfl
    · rw [show cs[8]? = _ from c8] at ej; cases ej; rfl
    · rw [show cs[9]? = _ from c9] at ej; cases ej; rfl
    · rw [show cs[10]? = _ from c10] at ej; cases ej; rfl
    · rw [show cs[11]? = _ from c11] at ej; cases ej; rfl
    · rw [show cs[12]? = _ from c12] at ej; cases ej; rfl
    · rw [show cs[13]? = _ from c13] at ej; cases ej; rfl
    · rw [show cs[14]? = _ from c14] at ej; cases ej; rfl
    · rw [show cs[15]? = _ from c15] at ej; cases ej; rfl
    · rw [show cs[16]? = _ from c16] at ej; cases ej; rfl
    · rw [show cs[17]? = _ from c17] at ej; cases ej; rfl
    · rw [show cs[18]? = _ from c18] at ej; cases ej; rfl
    · rw [show cs[19]? = _ from c19] at ej; cases ej; rfl
    · rw [show cs[20]? = _ from c20] at ej; cases ej; rfl
    · rw [show cs[21]? = _ from c21] at ej; cases ej; rfl
    · rw [show cs[22]? = _ from c22] at ej; cases ej; rfl
    · rw [show cs[23]? = _ from c23] at ej; cases ej; rfl
    · rw [show cs[24]? = _ from c24] at ej; cases ej; rfl
    · rw [show cs[25]? = _ from c25] at ej; cases ej; rfl
    · rw [show cs[26]? = _ from c26] at ej; cases ej; rfl
    · rw [show cs[27]? = _ from c27] at ej; cases ej; rfl
    · rw [show cs[28]? = _ from c28] at ej; cases ej; rfl
    · rw [show cs[29]? = _ from c29] at ej; cases ej; rfl
    · rw [show cs[30]? = _ from c30] at ej; cases ej; rfl
    · rw [show cs[31]? = _ from c31] at ej; cases ej; rfl
    · rw [show cs[32]? = _ from c32] at ej; cases ej; rfl
    · rw [show cs[33]? = _ from c33] at ej; cases ej; rfl
    · rw [show cs[34]? = _ from c34] at ej; cases ej; rfl
    · rw [show cs[35]? = _ from c35] at ej; cases ej; rfl
    · rw [show cs[36]? = _ from c36] at ej; cases ej; rfl
    · rw [show cs[37]? = _ from c37] at ej; cases ej; rfl
    · rw [show cs[38]? = _ from c38] at ej; cases ej; rfl
    · rw [show cs[39]? = _ from c39] at ej; cases ej; rfl
  exact ⟨m0, m1, m9, ⟨by simpa using hcl, by simpa using c0, by simpa using c1, by simpa using c9, by rw [Array.all_eq_true_iff_forall_mem]; intro v hv; exact ones v (by simpa using hv), b0, b1, b9⟩⟩
/-- v is a slice of n headers. -/
def HeadsIn (w : World) (v : Value) (n : Nat) : Prop :=
  ∃ ao cap, v = .slice ao n cap ∧ n ≤ cap ∧ cap ≤ maxLen ∧ (0 < n → ∃ b o, ao = some ⟨b, o, none⟩ ∧ ∀ i, i < n → ∃ hd k s d, HdAt hd k s d ∧ w.rangeAt b (o + i * 40) hd.toList)
theorem heads_open {v : Value} {d : DataW H} {p : List MemPlace} (hs : ∃ a l c, v = .slice a l c) (h : DataW.Trod enc Tryd.prog W 0 (fun _ => true) true 42 v d p) : ∃ n, HeadsIn W v n := by
  obtain ⟨a0, l0, c0, rfl⟩ := hs
  obtain ⟨fuel, hf⟩ := h
  rcases Deep.open_slice Tryd.underlying42 hf with ⟨hcs, _⟩ | ⟨a, len, cap, m, n, D, Pl, hcs, hb, hl, hm, hmm, _, hx⟩
  · simp [Value.cells] at hcs
    obtain ⟨rfl, rfl, rfl⟩ := hcs
    exact ⟨0, none, 0, rfl, Nat.le_refl _, by unfold maxLen; decide, fun h => absurd h (by decide)⟩
  · simp [Value.cells] at hcs
    obtain ⟨rfl, rfl, rfl⟩ := hcs
    simp only [if_true] at hmm
    subst hmm
    obtain ⟨b, off, spot⟩ := a
    by_cases hl0 : l0 = 0
    · subst hl0
      exact ⟨0, _, _, rfl, hl, hm, fun h => absurd h (by decide)⟩
    have hspot : spot = none := by
      obtain ⟨cs', h1, _⟩ := hx 0 (by omega)
      rw [hc40] at h1
      obtain ⟨_, hlen, hcell⟩ := World.cells?_some h1
      have q0 := hcell 0 (by decide)
      rw [List.getElem?_eq_getElem (by omega)] at q0
      simpa [Addr.add] using World.cell?_spot q0
    subst hspot
    refine ⟨l0, _, _, rfl, hl, hm, fun _ => ⟨b, off, rfl, fun i hi => ?_⟩⟩
    obtain ⟨cs', h1, h2⟩ := hx i (by omega)
    rw [hc40] at h1
    obtain ⟨_, hlen, hcell⟩ := World.cells?_some h1
    obtain ⟨k, s, d, hh⟩ := hd_open h2
    refine ⟨cs'.toArray, k, s, d, hh, fun j v hv => ?_⟩
    have hv' : cs'[j]? = some v := by simpa using hv
    have hj : j < 40 := by have := (List.getElem?_eq_some_iff.1 hv').1; omega
    have q := hcell j hj
    rw [Addr.add_mid, Addr.add_mid] at q
    rw [q, hv']
/-- v is a slice of n bytes. -/
def GapsIn (w : World) (v : Value) (n : Nat) (Z : Nat → Int) : Prop :=
  ∃ ao cap, v = .slice ao n cap ∧ n ≤ cap ∧ cap ≤ maxLen ∧ (0 < n → ∃ b o, ao = some ⟨b, o, none⟩ ∧ ∀ i, i < n → w.cell? ⟨b, o + i, none⟩ = some (.int .u8 (Z i)) ∧ (0 ≤ Z i ∧ Z i ≤ 255))
theorem gaps_open {v : Value} {d : DataW H} {p : List MemPlace} (hs : ∃ a l c, v = .slice a l c) (h : DataW.Trod enc Tryd.prog W 0 (fun _ => true) true 43 v d p) : ∃ n Z, GapsIn W v n Z := by
  obtain ⟨a0, l0, c0, rfl⟩ := hs
  obtain ⟨fuel, hf⟩ := h
  rcases open_ints Tryd.underlying43 Tryd.underlying5 hcu hf with ⟨hcs, _⟩ | ⟨a, len, cap, zs, hcs, hb, hl, hm, hzl, _, hcell, hwf⟩
  · simp [Value.cells] at hcs
    obtain ⟨rfl, rfl, rfl⟩ := hcs
    exact ⟨0, fun _ => 0, none, 0, rfl, Nat.le_refl _, by unfold maxLen; decide, fun h => absurd h (by decide)⟩
  · simp [Value.cells] at hcs
    obtain ⟨rfl, rfl, rfl⟩ := hcs
    simp only [if_true] at hzl
    obtain ⟨b, off, spot⟩ := a
    refine ⟨l0, fun i => zs.getD i 0, _, _, rfl, hl, hm, fun h0 => ?_⟩
    have hspot : spot = none := by simpa [Addr.add] using World.cell?_spot (hcell 0 (by omega))
    subst hspot
    refine ⟨b, off, rfl, fun i hi => ⟨?_, ?_⟩⟩
    · have := hcell i (by omega)
      rw [Addr.add_mid] at this
      exact this
    · have hi' : i < zs.length := by omega
      have : zs.getD i 0 = zs[i] := by simp [List.getD, List.getElem?_eq_getElem hi']
      show 0 ≤ zs.getD i 0 ∧ zs.getD i 0 ≤ 255
      rw [this]
      exact bounds_u8 (hwf _ (List.getElem_mem hi'))
end
theorem GapsIn.below {w w' : World} {v : Value} {n : Nat} {Z : Nat → Int} (h : GapsIn w v n Z) (hb : Below w.heap.size w w') : GapsIn w' v n Z := by
  obtain ⟨ao, cap, rfl, h1, h2, h3⟩ := h
  refine ⟨ao, cap, rfl, h1, h2, fun h0 => ?_⟩
  obtain ⟨b, o, e, hc⟩ := h3 h0
  exact ⟨b, o, e, fun i hi => ⟨below_kept hb (hc i hi).1, (hc i hi).2⟩⟩
theorem range_below {w w' : World} {b o : Nat} {cs : List Value} (h : w.rangeAt b o cs) (hb : Below w.heap.size w w') : w'.rangeAt b o cs := fun j v hv => below_kept hb (h j v hv)
theorem wpList_load_sub {P : Program} {ops : Array Oper} {rest : List Oper} {op : Oper} {a : Act} {w : World} {Q : Exit → Act → World → Prop} (hgd : op.guard = none) (ty : TypeId) (x : Operand) (ho : op.op = .load ty x)
    (b o : Nat) (hx : a.eval x = .pointer (some ⟨b, o, none⟩)) (cs : Array Value) (d : TypeDesc) (hc : w.rangeAt b o cs.toList)
    (hu : P.underlying ty = some d) (hd : d.isRow = true) (hi : (P.info? ty).map (·.size) = some cs.size) (h : wpList P ops Q rest (a.put op.dst (.agg cs)) w) : wpList P ops Q (op :: rest) a w :=
  wpList_load_mid hgd ty x ho b o hx cs.toList d hc hu hd (by simpa using hi) (by simpa using h)
theorem wpList_store_midTo {P : Program} {ops : Array Oper} {rest : List Oper} {op : Oper} {a : Act} {w : World} {Q : Exit → Act → World → Prop} (hgd : op.guard = none) (hd : op.dst = none) (ty : TypeId) (x y : Operand) (ho : op.op = .store ty x y)
    (b o : Nat) (cells : Array Value) (hx : a.eval x = .pointer (some ⟨b, o, none⟩)) (hy : a.eval y = .agg cells)
    (ht : w.there b o cells.size) (hi : (P.info? ty).map (·.size) = some cells.size) (h1 : cells.all (·.oneCell') = true)
    (h : wpList P ops Q rest a (w.setCells b o cells.toList)) : wpList P ops Q (op :: rest) a w :=
  wpList_store_mid hgd ty x y ho b o cells hx hy ht hi h1 (by rw [hd]; exact h)
theorem there_of_row {w : World} {b : Nat} {cs : Array Value} {t : TypeId} (h : w.heap[b]? = some (.cells cs t (0, 0))) (o n : Nat) (hn : o + n ≤ cs.size) : w.there b o n := fun j hj =>
  ⟨by rw [cell_of_row _ _ _ _ _ _ h]; simp; omega, frozen_of_row _ _ _ _ _ h⟩
def putC : Array Value → Nat → List Value → Array Value
  | cs, _, [] => cs
  | cs, o, v :: r => putC (cs.setIfInBounds o v) (o + 1) r
theorem heap_setCells_same (b : Nat) (t : TypeId) : ∀ (vs : List Value) (o : Nat) (w : World) (cs : Array Value), w.heap[b]? = some (.cells cs t (0, 0)) → (w.setCells b o vs).heap[b]? = some (.cells (putC cs o vs) t (0, 0))
  | [], _, _, _, h => h
  | v :: r, o, w, cs, h => heap_setCells_same b t r (o + 1) _ _ (heap_setCell_same w b o cs t v h)
theorem heap_setCells_far (b : Nat) : ∀ (vs : List Value) (o : Nat) (w : World) (i : Nat), i ≠ b → (w.setCells b o vs).heap[i]? = w.heap[i]?
  | [], _, _, _, _ => rfl
  | v :: r, o, w, i, h => (heap_setCells_far b r (o + 1) _ i h).trans (heap_setCell_other w ⟨b, o, .none⟩ i v h)
theorem below_setCells' {B b : Nat} (hb : B ≤ b) : ∀ (vs : List Value) (o : Nat) (w w' : World), Below B w w' → Below B w (w'.setCells b o vs)
  | [], _, _, _, h => h
  | v :: r, o, w, w', h => below_setCells' hb r (o + 1) w _ (h.setCell (p := ⟨b, o, .none⟩) hb v)
theorem below_alloc1 {w w' : World} (h : Below w.heap.size w w') {o : Obj} : Below w.heap.size w (w'.alloc o) := h.alloc h.size o
theorem setRow_heap' : True := trivial
theorem cell_far' (b : Nat) : ∀ (vs : List Value) (o : Nat) (w : World) (c j : Nat), c ≠ b → (w.setCells b o vs).cell? ⟨c, j, none⟩ = w.cell? ⟨c, j, none⟩ := fun vs o w c j h => by
  simp only [World.cell?, heap_setCells_far b vs o w c h]
theorem cell_far {b c j o : Nat} {vs : List Value} {w : World} (h : c ≠ b) : (w.setCells b o vs).cell? ⟨c, j, none⟩ = w.cell? ⟨c, j, none⟩ := cell_far' b vs o w c j h
def otherCells : Array Value := #[.int .u8 2, .int .u8 0, .int .u8 0, .int .u8 0, .int .u8 0, .int .u8 9]
def withA1 (hd : Array Value) : Array Value := (((((hd.setIfInBounds 10 (.int .u8 2)).setIfInBounds 11 (.int .u8 0)).setIfInBounds 12 (.int .u8 0)).setIfInBounds 13 (.int .u8 0)).setIfInBounds 14 (.int .u8 0)).setIfInBounds 15 (.int .u8 9)
theorem HdAt.head {hd : Array Value} {k s d : Int} (h : HdAt hd k s d) : Head (withA1 hd) k s d 2 0 0 0 0 9 := by
  have hz := h.size
  have far : ∀ i, i < 10 → (withA1 hd)[i]? = hd[i]? := fun i hi => by
    unfold withA1
    rw [Array.getElem?_setIfInBounds_ne (by omega), Array.getElem?_setIfInBounds_ne (by omega), Array.getElem?_setIfInBounds_ne (by omega), Array.getElem?_setIfInBounds_ne (by omega), Array.getElem?_setIfInBounds_ne (by omega), Array.getElem?_setIfInBounds_ne (by omega)]
  refine ⟨by simp [withA1, hz], (far 0 (by decide)).trans h.kind, (far 1 (by decide)).trans h.sub, (far 9 (by decide)).trans h.dur, ?_, ?_, ?_, ?_, ?_, ?_⟩
  all_goals (simp [withA1, Array.getElem?_setIfInBounds, hz])
/-- What hearing a frame for another station that makes no request comes to. -/
def fU (u e d : Int) : Int := max (if u < e then 0 else u) (e + d)
theorem fold_step {u e d : Int} (hu : 0 ≤ u ∧ u ≤ 2199023255552) (he : 0 ≤ e ∧ e ≤ 1099511627776) (hd : 0 ≤ d ∧ d ≤ 32767) :
    hU u 0 e d 0 false = fU u e d ∧ hL u 0 e d 0 false false = 0 ∧ hE u 0 e d 0 = 0 := by
  have h1 : navE u 0 = 0 := by simp [navE, timeB, hu]
  have h2 : heardOk e d 0 = true := by simp [heardOk, he, hd]
  have h3 : navEnd u 0 = u := by simp [navEnd]
  refine ⟨?_, ?_, ?_⟩
  · simp only [hU, hOk, h1, h2, beq_self_eq_true, Bool.and_self, if_true, heardU, h3, fU, Bool.not_false, Bool.true_and, decide_eq_true_eq]
    split <;> split <;> omega
  · simp [hL, hOk, h1, h2, heardL]
  · simp [hE, h1, h2]
theorem fold_until {u : Int} (hu : 0 ≤ u ∧ u ≤ 2199023255552) : untN u 0 = u ∧ navE u 0 = 0 := by
  have h1 : navE u 0 = 0 := by simp [navE, timeB, hu]
  exact ⟨by simp [untN, h1, navEnd], h1⟩
end Go.Proofs.YtdmaekiejdahoaaDoor
