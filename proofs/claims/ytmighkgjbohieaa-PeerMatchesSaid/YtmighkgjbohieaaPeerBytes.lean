/-
  A slice of bytes among a law's arguments; append of bytes onto an empty literal; a link among the arguments.
-/
import Derived.Test.YtmighkgjbohieaaPeerOpen
import Derived.Test.YtmighkgjbohieaaPeerAux
import Derived.Test.YtmighkgjbohieaaPeerEqF
set_option linter.unusedVariables false
set_option linter.unusedSimpArgs false
namespace Go.Proofs.Ytmighkgjbohieaa
open Go.ChangeShapes Go.WideShapes Go.ChangeAt Go.RowKit Go.Great

theorem bytes_open {H : Type} {enc : TypeId × Value → H} {W : World} {v : Value} {d : DataW H} {p : List MemPlace} (hs : ∃ a l c, v = .slice a l c) (h : DataW.Trod enc Try.prog W 0 (fun _ => true) true 45 v d p) : ∃ m, MsgIn W v m := by
  obtain ⟨a0, l0, c0, rfl⟩ := hs
  obtain ⟨fuel, hf⟩ := h
  rcases open_ints Try.underlying45 Try.underlying5 c5 hf with ⟨hcs, _⟩ | ⟨a, len, cap, zs, hcs, hb, hl, hm, hzl, _, hcell, hwf⟩
  · simp [Value.cells] at hcs
    obtain ⟨rfl, rfl, rfl⟩ := hcs
    exact ⟨[], none, 0, rfl, Nat.le_refl _, fun x hx => (by cases hx), fun h => absurd rfl h⟩
  · simp [Value.cells] at hcs
    obtain ⟨rfl, rfl, rfl⟩ := hcs
    simp only [if_true] at hzl
    obtain ⟨b, off, spot⟩ := a
    have hlen : (zs.take l0).length = l0 := by rw [List.length_take]; omega
    refine ⟨zs.take l0, some ⟨b, off, spot⟩, c0, by rw [hlen], by omega, fun x hx => wf8 (hwf _ (List.mem_of_mem_take hx)), fun h0 => ?_⟩
    have hl0 : l0 ≠ 0 := fun e => h0 (by rw [e, List.take_zero])
    have hspot : spot = none := by simpa [Addr.add] using World.cell?_spot (hcell 0 (by omega))
    subst hspot
    refine ⟨b, off, rfl, fun i x hi => ?_⟩
    rw [List.getElem?_take] at hi
    split at hi
    · rename_i hlt
      have hi' : i < zs.length := by omega
      have := hcell i hi'
      rw [Addr.add_mid, show zs.getD i 0 = zs[i] by simp [List.getD, List.getElem?_eq_getElem hi']] at this
      rw [List.getElem?_eq_getElem hi'] at hi
      cases hi
      exact this
    · cases hi
theorem MsgIn.reads {w : World} {v : Value} {m : List Int} (h : MsgIn w v m) : ReadsAs w v m.length (m.map (.int .u8 ·)) := by
  obtain ⟨ao, cap, rfl, _, _, hc⟩ := h
  refine ⟨ao, cap, rfl, List.length_map _, fun u hu => ?_, fun h0 => ?_⟩
  · obtain ⟨x, _, rfl⟩ := List.mem_map.1 hu
    rfl
  · obtain ⟨b, o, e, hcc⟩ := hc (fun e => h0 (by rw [e]; rfl))
    refine ⟨b, o, e, fun j u hj => ?_⟩
    rw [List.getElem?_map] at hj
    cases hx : m[j]? with
    | none => rw [hx] at hj; cases hj
    | some x => rw [hx] at hj; cases hj; exact hcc j x hx
noncomputable def i5 : TypeInfo := (Try.prog.info? 5).getD default
theorem i5_is : Try.prog.info? 5 = some i5 := by kernel_rfl
theorem i5_zero : i5.zero = some (.int .u8 0) := by kernel_rfl
theorem i5_size : i5.size = 1 := by kernel_rfl
theorem i5_bytes : i5.bytes = 1 := by kernel_rfl
theorem u45 : Try.prog.underlying 45 = some (.slice 5) := Try.underlying45
/-- Bytes that lie in a row of their own. -/
def BytesAt (w : World) (base : Nat) (v : Value) (m : List Int) : Prop := ∃ g cap cs, v = .slice (some ⟨g, 0, none⟩) m.length cap ∧ m.length ≤ cap ∧ base ≤ g ∧ g < w.heap.size ∧ w.heap[g]? = some (.cells cs 5) ∧ ∀ (i : Nat) (x : Int), m[i]? = some x → cs[i]? = some (.int .u8 x)
theorem BytesAt.read {w : World} {base : Nat} {v : Value} {m : List Int} (h : BytesAt w base v m) (hm : ∀ x ∈ m, 0 ≤ x ∧ x ≤ 255) : MsgIn w v m := by
  obtain ⟨g, cap, cs, rfl, h1, _, _, h2, h3⟩ := h
  refine ⟨_, cap, rfl, h1, hm, fun _ => ⟨g, 0, rfl, fun i x hi => ?_⟩⟩
  rw [Nat.zero_add, cell_of_row _ _ _ _ _ _ h2]
  exact h3 i x hi
theorem run_append_bytes (w : World) (ty : TypeId) (g : Nat) (hg : w.heap[g]? = some (.cells #[] 5)) (x : Value) (m : List Int) (hx : MsgIn w x m) (hnm : m.length ≤ 1000000) :
    ∃ v' w', (Builtin.append_ #[45, 45] ty #[.slice (some ⟨g, 0, none⟩) 0 0, x]).run Try.prog w = .ok v' w' ∧ BytesAt w' g v' m ∧ w.grownBy w' (some g) := by
  have hown : w.ownsRow g 5 1 (.slice (some ⟨g, 0, none⟩) 0 0) 0 [] := ⟨rfl, .inr ⟨g, 0, #[], rfl, Nat.le_refl _, hg, Nat.le_refl _, by unfold maxLen; decide, rfl, rfl⟩⟩
  have hgl := row_lt hg
  obtain ⟨ao, c, rfl, hl, h1, hc⟩ := hx.reads
  cases ao with
  | some ad =>
    have hnews : ∀ j u, (m.map (Value.int .u8 ·))[j]? = some u → w.cell? (ad.add j) = some u := fun j u hj => by
      have hm : m.length ≠ 0 := fun e => by
        have := (List.getElem?_eq_some_iff.1 hj).1
        omega
      obtain ⟨b, o, e, hcc⟩ := hc hm
      cases e
      rw [Addr.add_mid]
      exact hcc j u hj
    obtain ⟨v', w', r1, r2, r3, r4, r5⟩ := run_append_own_at (P := Try.prog) w g 45 ty 5 i5 (.int .u8 0) 1 1 u45 i5_is i5_zero i5_size i5_bytes rfl (by decide) _ 0 [] hown ad m.length c _ (by omega) hnews h1 (by unfold maxLen; omega) (by omega) (Nat.le_of_lt hgl)
    refine ⟨v', w', r1, ?_, r3⟩
    rcases r2.2 with ⟨e, _⟩ | ⟨g2, cap, cur, rfl, hbg, hg2, hn, hcm, hs, htake⟩
    · exact absurd (r4.1 e).1 (by intro h; cases h)
    · rw [Nat.zero_add] at hn ⊢
      refine ⟨g2, cap, cur, rfl, hn, hbg, row_lt hg2, hg2, fun i x hi => ?_⟩
      have hq : ([] ++ m.map (Value.int .u8 ·))[i]? = some (.int .u8 x) := by rw [List.nil_append, List.getElem?_map, hi]; rfl
      rw [← htake, List.getElem?_take] at hq
      split at hq
      · simpa using hq
      · cases hq
  | none =>
    have hm : m.length = 0 := by
      by_cases h0 : m.length = 0
      · exact h0
      · obtain ⟨b, o, e, _⟩ := hc h0
        cases e
    have hm' : m = [] := List.eq_nil_of_length_eq_zero hm
    subst hm'
    refine ⟨.slice (some ⟨g, 0, none⟩) 0 0, w, ?_, ⟨g, 0, #[], rfl, Nat.le_refl _, Nat.le_refl _, hgl, hg, fun i x hi => by simp at hi⟩, ⟨rfl, rfl, rfl, Nat.le_refl _, fun _ _ _ => rfl⟩⟩
    simp [Builtin.append_, run_underlying u45, sizeOf, typeInfo, i5_is, i5_size, Builtin.lenOf, Builtin.firstCells, storeCells, Sem.run_bind]
theorem wpList_append_bytes {ops : Array Oper} {rest : List Oper} {o : Oper} {a : Act} {w : World} {Q : Exit → Act → World → Prop} (hgd : o.guard = none) (d : Option Tmp) (hd : o.dst = d) (s x : Operand)
    (ho : o.op = .call { callee := .builtin .append, args := #[s, x], argTypes := #[45, 45] })
    (g : Nat) (hg : w.heap[g]? = some (.cells #[] 5)) (hs : a.eval s = .slice (some ⟨g, 0, none⟩) 0 0) (y : Value) (m : List Int) (hy : a.eval x = y) (hx : MsgIn w y m) (hnm : m.length ≤ 1000000)
    (h : ∀ v' w', BytesAt w' g v' m → w.grownBy w' (some g) → wpList Try.prog ops Q rest (a.put d v') w') : wpList Try.prog ops Q (o :: rest) a w := by
  subst hd
  refine wpList_plain hgd fun K hK => ?_
  obtain ⟨v', w', hr, h2, h3⟩ := run_append_bytes w o.type g hg y m hx hnm
  unfold Oper.wp execOp
  simp only [ho, resolve, invoke, builtin, Sem.run_bind, Sem.run_pure, Result.andThen_ok, List.map_toArray, List.map_cons, List.map_nil, hs, hy, hr]
  exact hK _ _ (h v' w' h2 h3)
theorem link_types : Try.prog.cellTypes Try.prog.depth 27 = some [5, 5, 5, 5, 5, 5, 5, 5, 5, 5, 5, 5, 5, 3, 3, 3, 3] := by kernel_rfl
theorem link_open {W : World} {r : Reach} {b0 : Nat} {v : Value} (h : Value.okWide Try.prog W r b0 27 v) : ∃ k : Lk, v = .agg k.cells ∧ k.Wf := by
  obtain ⟨cs, rfl, sz, at0⟩ := fr_cells (.inl ⟨_, Try.underlying27⟩) link_types (by kernel_rfl) h
  have sz' : cs.size = 17 := sz
  obtain ⟨n0, e0, b0⟩ := fr_at_int sz at0 0 _ rfl Try.underlying5
  obtain ⟨n1, e1, b1⟩ := fr_at_int sz at0 1 _ rfl Try.underlying5
  obtain ⟨n2, e2, b2⟩ := fr_at_int sz at0 2 _ rfl Try.underlying5
  obtain ⟨n3, e3, b3⟩ := fr_at_int sz at0 3 _ rfl Try.underlying5
  obtain ⟨n4, e4, b4⟩ := fr_at_int sz at0 4 _ rfl Try.underlying5
  obtain ⟨n5, e5, b5⟩ := fr_at_int sz at0 5 _ rfl Try.underlying5
  obtain ⟨n6, e6, b6⟩ := fr_at_int sz at0 6 _ rfl Try.underlying5
  obtain ⟨n7, e7, b7⟩ := fr_at_int sz at0 7 _ rfl Try.underlying5
  obtain ⟨n8, e8, b8⟩ := fr_at_int sz at0 8 _ rfl Try.underlying5
  obtain ⟨n9, e9, b9⟩ := fr_at_int sz at0 9 _ rfl Try.underlying5
  obtain ⟨n10, e10, b10⟩ := fr_at_int sz at0 10 _ rfl Try.underlying5
  obtain ⟨n11, e11, b11⟩ := fr_at_int sz at0 11 _ rfl Try.underlying5
  obtain ⟨n12, e12, b12⟩ := fr_at_int sz at0 12 _ rfl Try.underlying5
  obtain ⟨n13, e13, b13⟩ := fr_at_int sz at0 13 _ rfl Try.underlying3
  obtain ⟨n14, e14, b14⟩ := fr_at_int sz at0 14 _ rfl Try.underlying3
  obtain ⟨n15, e15, b15⟩ := fr_at_int sz at0 15 _ rfl Try.underlying3
  obtain ⟨n16, e16, b16⟩ := fr_at_int sz at0 16 _ rfl Try.underlying3
  refine ⟨⟨n0, n1, n2, n3, n4, n5, n6, n7, n8, n9, n10, n11, n12, n13, n14, n15, n16⟩, ?_, ⟨⟨fr_u8 b0, fr_u8 b1, fr_u8 b2, fr_u8 b3, fr_u8 b4, fr_u8 b5, fr_u8 b6, fr_u8 b7, fr_u8 b8, fr_u8 b9, fr_u8 b10, fr_u8 b11⟩, fr_u8 b12, fr_i64 b13, fr_i64 b14, fr_i64 b15, fr_i64 b16⟩⟩
  congr 1
  apply Array.ext_getElem?
  intro i
  by_cases hi : i < 17
  · have h17 : i = 0 ∨ i = 1 ∨ i = 2 ∨ i = 3 ∨ i = 4 ∨ i = 5 ∨ i = 6 ∨ i = 7 ∨ i = 8 ∨ i = 9 ∨ i = 10 ∨ i = 11 ∨ i = 12 ∨ i = 13 ∨ i = 14 ∨ i = 15 ∨ i = 16 := by omega
    rcases h17 with rfl | rfl | rfl | rfl | rfl | rfl | rfl | rfl | rfl | rfl | rfl | rfl | rfl | rfl | rfl | rfl | rfl
    all_goals first
      | exact e0 | exact e1 | exact e2 | exact e3 | exact e4 | exact e5 | exact e6 | exact e7 | exact e8 | exact e9 | exact e10 | exact e11 | exact e12 | exact e13 | exact e14 | exact e15 | exact e16
  · rw [Array.getElem?_eq_none (by omega), Array.getElem?_eq_none (by simp [Lk.cells]; omega)]
end Go.Proofs.Ytmighkgjbohieaa
