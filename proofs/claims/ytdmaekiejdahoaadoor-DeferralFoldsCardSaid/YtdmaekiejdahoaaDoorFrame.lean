/-
  The frame that all laws share: if the call returns true and leaves all that lay in memory as it was ('Below'), then the row's conclusion holds: the result is true and each argument reads as before.
-/
import Derived.WalkKit
import Derived.ProofKit
import Derived.OpenShut
import Derived.Carry
set_option linter.unusedVariables false
set_option linter.unusedSimpArgs false
namespace Go.Proofs.YtdmaekiejdahoaaDoor
open Go.ChangeShapes Go.WideShapes Go.ChangeAt Go.RowKit

theorem fr_trodAll {H : Type} {enc : TypeId × Value → H} {P : Program} (hl : laidOutB P = true) {W W' : World} (hb : Below W.heap.size W W') :
    ∀ (ts : List TypeId) (vs : List Value) (ds : List (DataW H)) (ps : List MemPlace), (∀ t ∈ ts, P.readableRec t = true ∧ t < P.types.size) → (∀ x ∈ ps, x.block < W.heap.size) →
      DataW.TrodAll enc P W 0 (fun _ => true) true ts vs ds ps → DataW.TrodAll enc P W' 0 (fun b => decide (b < W.heap.size)) true ts vs ds ps := by
  intro ts
  induction ts with
  | nil =>
    intro vs ds ps _ _ h
    obtain ⟨rfl, rfl, rfl⟩ := trodAll_nil h
    exact trodAll_mk0
  | cons t ts ih =>
    intro vs ds ps ht hlt h
    obtain ⟨v, vs', d, ds', p, q, rfl, rfl, rfl, h0, r0⟩ := trodAll_cons h
    obtain ⟨hr, hrow⟩ := ht t (by simp)
    exact trodAll_cons_mk (Below.trod hl hr hrow h0 hb (fun x hx => hlt x (by simp [hx]))) (ih _ _ _ (fun u hu => ht u (by simp [hu])) (fun x hx => hlt x (by simp [hx])) r0)

theorem fr_post {H : Type} {enc : TypeId × Value → H} {P : Program} {f : Func} {s : ChangeSpec} {W W' : World} {args : Array Value} {ds gs : List (DataW H)} {before : List MemPlace} {b : TypeId}
    (hl : laidOutB P = true) (hts0 : (f.params.toList.all fun t => P.readableRec t && decide (t < P.types.size)) = true) (hvars : s.vars = []) (hres : f.resultTypes = #[b]) (hb : P.underlying b = some .bool)
    (hW : DataW.Whole enc P f.params.toList s.vars false W args.toList ds gs before)
    (hfn : s.fn H (ds ++ gs) = { results := [.lit (.bool true)], args := ds })
    (hB : Below W.heap.size W W') : s.post enc P f false true false false W args (.bool true) W' := by
  have hts : ∀ t ∈ f.params.toList, P.readableRec t = true ∧ t < P.types.size := fun t ht => by
    have h := List.all_eq_true.1 hts0 t ht
    simpa using h
  have hW' := hW
  obtain ⟨p, q, hA, hV, rfl, hfz, hnd⟩ := hW
  rw [hvars] at hV
  obtain ⟨rfl, rfl⟩ := trodVars_none hV
  refine ⟨ds, [], _, [], p, [], hW', ?_, ?_, ?_, hB.frame _, fun h => by cases h⟩
  · rw [hfn, hres]
    exact trodAll_cons_mk (p := []) (shut_bool hb true) trodAll_mk0
  · rw [hfn]
    exact fr_trodAll hl hB _ _ _ _ hts (fun x hx => hW'.lt x (by simp [hx])) hA
  · rw [hfn, hvars]
    rfl

/-- AN INTEGER ARGUMENT: its number, within its kind's range. -/
theorem fr_int {P : Program} {W : World} {r : Reach} {b0 : Nat} {t : TypeId} {k : IntKind} {v : Value} (ht : P.underlying t = some (.int k)) (h : Value.okWide P W r b0 t v) : ∃ n, v = .int k n ∧ k.has n := by
  obtain ⟨n, rfl⟩ := okWide_int ht h
  refine ⟨n, rfl, ?_⟩
  simp only [Value.okWide, Cell.okWide, Cell.ok, ht] at h
  exact h.2
theorem fr_i64 {n : Int} (h : IntKind.i64.has n) : -9223372036854775808 ≤ n ∧ n ≤ 9223372036854775807 := h
theorem fr_u64 {n : Int} (h : IntKind.u64.has n) : 0 ≤ n ∧ n ≤ 18446744073709551615 := h
theorem fr_u8 {n : Int} (h : IntKind.u8.has n) : 0 ≤ n ∧ n ≤ 255 := h

/-- A STRUCT OR ARRAY BY VALUE: its cells, each of its own type. -/
theorem fr_cells {P : Program} {W : World} {r : Reach} {b0 : Nat} {t : TypeId} {v : Value} {ts : List TypeId} (hs : (∃ fs, P.underlying t = some (.struct fs)) ∨ ∃ n e, P.underlying t = some (.array n e))
    (hc : P.cellTypes P.depth t = some ts) (hC : P.cellsOf t = ts.length) (h : Value.okWide P W r b0 t v) : ∃ cs : Array Value, v = .agg cs ∧ cs.size = ts.length ∧ ∀ (i : Nat) (c : Value), cs[i]? = some c → ∃ u, ts[i]? = some u ∧ Cell.okWide P W r b0 u c := by
  have h2 : ∃ cs, v = .agg cs ∧ cs.size = P.cellsOf t ∧ Row.okWide P W r b0 t cs := by
    rcases hs with ⟨fs, hs⟩ | ⟨n, e, hs⟩ <;> simpa only [Value.okWide, hs] using h
  obtain ⟨cs, rfl, hsz, ts', hts', -, hat⟩ := h2
  rw [hc] at hts'
  obtain rfl := Option.some.inj hts'
  refine ⟨cs, rfl, by rw [hsz, hC], fun i c hi => ?_⟩
  obtain ⟨u, hu, hk⟩ := hat i c hi
  have hlt : i < cs.size := (Array.getElem?_eq_some_iff.1 hi).1
  rw [Nat.mod_eq_of_lt (by omega)] at hu
  exact ⟨u, hu, hk⟩
/-- A CELL OF AN INTEGER TYPE. -/
theorem fr_cell_int {P : Program} {W : World} {r : Reach} {b0 : Nat} {t : TypeId} {k : IntKind} {v : Value} (ht : P.underlying t = some (.int k)) (h : Cell.okWide P W r b0 t v) : ∃ n, v = .int k n ∧ k.has n := by
  simp only [Cell.okWide, ht] at h
  unfold Cell.ok at h
  rw [ht] at h
  cases v <;> simp at h
  obtain ⟨rfl, h⟩ := h
  exact ⟨_, rfl, h⟩
theorem fr_cell_bool {P : Program} {W : World} {r : Reach} {b0 : Nat} {t : TypeId} {v : Value} (ht : P.underlying t = some .bool) (h : Cell.okWide P W r b0 t v) : ∃ n, v = .bool n := by
  simp only [Cell.okWide, ht] at h
  unfold Cell.ok at h
  rw [ht] at h
  cases v <;> simp at h
  exact ⟨_, rfl⟩


/-- An array of m values, written out. -/
theorem fr_agg2 (cs : Array Value) (h : cs.size = 2) : ∃ c0 c1, cs = #[c0, c1] := by
  obtain ⟨l⟩ := cs
  simp only [List.size_toArray] at h
  obtain ⟨c0, l, rfl⟩ := List.exists_cons_of_length_pos (l := l) (by omega)
  simp only [List.length_cons] at h
  obtain ⟨c1, l, rfl⟩ := List.exists_cons_of_length_pos (l := l) (by omega)
  simp only [List.length_cons] at h
  obtain rfl := List.eq_nil_of_length_eq_zero (l := l) (by omega)
  exact ⟨c0, c1, rfl⟩
theorem fr_agg3 (cs : Array Value) (h : cs.size = 3) : ∃ c0 c1 c2, cs = #[c0, c1, c2] := by
  obtain ⟨l⟩ := cs
  simp only [List.size_toArray] at h
  obtain ⟨c0, l, rfl⟩ := List.exists_cons_of_length_pos (l := l) (by omega)
  simp only [List.length_cons] at h
  obtain ⟨c1, l, rfl⟩ := List.exists_cons_of_length_pos (l := l) (by omega)
  simp only [List.length_cons] at h
  obtain ⟨c2, l, rfl⟩ := List.exists_cons_of_length_pos (l := l) (by omega)
  simp only [List.length_cons] at h
  obtain rfl := List.eq_nil_of_length_eq_zero (l := l) (by omega)
  exact ⟨c0, c1, c2, rfl⟩
theorem fr_agg4 (cs : Array Value) (h : cs.size = 4) : ∃ c0 c1 c2 c3, cs = #[c0, c1, c2, c3] := by
  obtain ⟨l⟩ := cs
  simp only [List.size_toArray] at h
  obtain ⟨c0, l, rfl⟩ := List.exists_cons_of_length_pos (l := l) (by omega)
  simp only [List.length_cons] at h
  obtain ⟨c1, l, rfl⟩ := List.exists_cons_of_length_pos (l := l) (by omega)
  simp only [List.length_cons] at h
  obtain ⟨c2, l, rfl⟩ := List.exists_cons_of_length_pos (l := l) (by omega)
  simp only [List.length_cons] at h
  obtain ⟨c3, l, rfl⟩ := List.exists_cons_of_length_pos (l := l) (by omega)
  simp only [List.length_cons] at h
  obtain rfl := List.eq_nil_of_length_eq_zero (l := l) (by omega)
  exact ⟨c0, c1, c2, c3, rfl⟩
theorem fr_agg5 (cs : Array Value) (h : cs.size = 5) : ∃ c0 c1 c2 c3 c4, cs = #[c0, c1, c2, c3, c4] := by
  obtain ⟨l⟩ := cs
  simp only [List.size_toArray] at h
  obtain ⟨c0, l, rfl⟩ := List.exists_cons_of_length_pos (l := l) (by omega)
  simp only [List.length_cons] at h
  obtain ⟨c1, l, rfl⟩ := List.exists_cons_of_length_pos (l := l) (by omega)
  simp only [List.length_cons] at h
  obtain ⟨c2, l, rfl⟩ := List.exists_cons_of_length_pos (l := l) (by omega)
  simp only [List.length_cons] at h
  obtain ⟨c3, l, rfl⟩ := List.exists_cons_of_length_pos (l := l) (by omega)
  simp only [List.length_cons] at h
  obtain ⟨c4, l, rfl⟩ := List.exists_cons_of_length_pos (l := l) (by omega)
  simp only [List.length_cons] at h
  obtain rfl := List.eq_nil_of_length_eq_zero (l := l) (by omega)
  exact ⟨c0, c1, c2, c3, c4, rfl⟩
theorem fr_agg6 (cs : Array Value) (h : cs.size = 6) : ∃ c0 c1 c2 c3 c4 c5, cs = #[c0, c1, c2, c3, c4, c5] := by
  obtain ⟨l⟩ := cs
  simp only [List.size_toArray] at h
  obtain ⟨c0, l, rfl⟩ := List.exists_cons_of_length_pos (l := l) (by omega)
  simp only [List.length_cons] at h
  obtain ⟨c1, l, rfl⟩ := List.exists_cons_of_length_pos (l := l) (by omega)
  simp only [List.length_cons] at h
  obtain ⟨c2, l, rfl⟩ := List.exists_cons_of_length_pos (l := l) (by omega)
  simp only [List.length_cons] at h
  obtain ⟨c3, l, rfl⟩ := List.exists_cons_of_length_pos (l := l) (by omega)
  simp only [List.length_cons] at h
  obtain ⟨c4, l, rfl⟩ := List.exists_cons_of_length_pos (l := l) (by omega)
  simp only [List.length_cons] at h
  obtain ⟨c5, l, rfl⟩ := List.exists_cons_of_length_pos (l := l) (by omega)
  simp only [List.length_cons] at h
  obtain rfl := List.eq_nil_of_length_eq_zero (l := l) (by omega)
  exact ⟨c0, c1, c2, c3, c4, c5, rfl⟩
theorem fr_agg18 (cs : Array Value) (h : cs.size = 18) : ∃ c0 c1 c2 c3 c4 c5 c6 c7 c8 c9 c10 c11 c12 c13 c14 c15 c16 c17, cs = #[c0, c1, c2, c3, c4, c5, c6, c7, c8, c9, c10, c11, c12, c13, c14, c15, c16, c17] := by
  obtain ⟨l⟩ := cs
  simp only [List.size_toArray] at h
  obtain ⟨c0, l, rfl⟩ := List.exists_cons_of_length_pos (l := l) (by omega)
  simp only [List.length_cons] at h
  obtain ⟨c1, l, rfl⟩ := List.exists_cons_of_length_pos (l := l) (by omega)
  simp only [List.length_cons] at h
  obtain ⟨c2, l, rfl⟩ := List.exists_cons_of_length_pos (l := l) (by omega)
  simp only [List.length_cons] at h
  obtain ⟨c3, l, rfl⟩ := List.exists_cons_of_length_pos (l := l) (by omega)
  simp only [List.length_cons] at h
  obtain ⟨c4, l, rfl⟩ := List.exists_cons_of_length_pos (l := l) (by omega)
  simp only [List.length_cons] at h
  obtain ⟨c5, l, rfl⟩ := List.exists_cons_of_length_pos (l := l) (by omega)
  simp only [List.length_cons] at h
  obtain ⟨c6, l, rfl⟩ := List.exists_cons_of_length_pos (l := l) (by omega)
  simp only [List.length_cons] at h
  obtain ⟨c7, l, rfl⟩ := List.exists_cons_of_length_pos (l := l) (by omega)
  simp only [List.length_cons] at h
  obtain ⟨c8, l, rfl⟩ := List.exists_cons_of_length_pos (l := l) (by omega)
  simp only [List.length_cons] at h
  obtain ⟨c9, l, rfl⟩ := List.exists_cons_of_length_pos (l := l) (by omega)
  simp only [List.length_cons] at h
  obtain ⟨c10, l, rfl⟩ := List.exists_cons_of_length_pos (l := l) (by omega)
  simp only [List.length_cons] at h
  obtain ⟨c11, l, rfl⟩ := List.exists_cons_of_length_pos (l := l) (by omega)
  simp only [List.length_cons] at h
  obtain ⟨c12, l, rfl⟩ := List.exists_cons_of_length_pos (l := l) (by omega)
  simp only [List.length_cons] at h
  obtain ⟨c13, l, rfl⟩ := List.exists_cons_of_length_pos (l := l) (by omega)
  simp only [List.length_cons] at h
  obtain ⟨c14, l, rfl⟩ := List.exists_cons_of_length_pos (l := l) (by omega)
  simp only [List.length_cons] at h
  obtain ⟨c15, l, rfl⟩ := List.exists_cons_of_length_pos (l := l) (by omega)
  simp only [List.length_cons] at h
  obtain ⟨c16, l, rfl⟩ := List.exists_cons_of_length_pos (l := l) (by omega)
  simp only [List.length_cons] at h
  obtain ⟨c17, l, rfl⟩ := List.exists_cons_of_length_pos (l := l) (by omega)
  simp only [List.length_cons] at h
  obtain rfl := List.eq_nil_of_length_eq_zero (l := l) (by omega)
  exact ⟨c0, c1, c2, c3, c4, c5, c6, c7, c8, c9, c10, c11, c12, c13, c14, c15, c16, c17, rfl⟩
theorem fr_agg40 (cs : Array Value) (h : cs.size = 40) : ∃ c0 c1 c2 c3 c4 c5 c6 c7 c8 c9 c10 c11 c12 c13 c14 c15 c16 c17 c18 c19 c20 c21 c22 c23 c24 c25 c26 c27 c28 c29 c30 c31 c32 c33 c34 c35 c36 c37 c38 c39, cs = #[c0, c1, c2, c3, c4, c5, c6, c7, c8, c9, c10, c11, c12, c13, c14, c15, c16, c17, c18, c19, c20, c21, c22, c23, c24, c25, c26, c27, c28, c29, c30, c31, c32, c33, c34, c35, c36, c37, c38, c39] := by
  obtain ⟨l⟩ := cs
  simp only [List.size_toArray] at h
  obtain ⟨c0, l, rfl⟩ := List.exists_cons_of_length_pos (l := l) (by omega)
  simp only [List.length_cons] at h
  obtain ⟨c1, l, rfl⟩ := List.exists_cons_of_length_pos (l := l) (by omega)
  simp only [List.length_cons] at h
  obtain ⟨c2, l, rfl⟩ := List.exists_cons_of_length_pos (l := l) (by omega)
  simp only [List.length_cons] at h
  obtain ⟨c3, l, rfl⟩ := List.exists_cons_of_length_pos (l := l) (by omega)
  simp only [List.length_cons] at h
  obtain ⟨c4, l, rfl⟩ := List.exists_cons_of_length_pos (l := l) (by omega)
  simp only [List.length_cons] at h
  obtain ⟨c5, l, rfl⟩ := List.exists_cons_of_length_pos (l := l) (by omega)
  simp only [List.length_cons] at h
  obtain ⟨c6, l, rfl⟩ := List.exists_cons_of_length_pos (l := l) (by omega)
  simp only [List.length_cons] at h
  obtain ⟨c7, l, rfl⟩ := List.exists_cons_of_length_pos (l := l) (by omega)
  simp only [List.length_cons] at h
  obtain ⟨c8, l, rfl⟩ := List.exists_cons_of_length_pos (l := l) (by omega)
  simp only [List.length_cons] at h
  obtain ⟨c9, l, rfl⟩ := List.exists_cons_of_length_pos (l := l) (by omega)
  simp only [List.length_cons] at h
  obtain ⟨c10, l, rfl⟩ := List.exists_cons_of_length_pos (l := l) (by omega)
  simp only [List.length_cons] at h
  obtain ⟨c11, l, rfl⟩ := List.exists_cons_of_length_pos (l := l) (by omega)
  simp only [List.length_cons] at h
  obtain ⟨c12, l, rfl⟩ := List.exists_cons_of_length_pos (l := l) (by omega)
  simp only [List.length_cons] at h
  obtain ⟨c13, l, rfl⟩ := List.exists_cons_of_length_pos (l := l) (by omega)
  simp only [List.length_cons] at h
  obtain ⟨c14, l, rfl⟩ := List.exists_cons_of_length_pos (l := l) (by omega)
  simp only [List.length_cons] at h
  obtain ⟨c15, l, rfl⟩ := List.exists_cons_of_length_pos (l := l) (by omega)
  simp only [List.length_cons] at h
  obtain ⟨c16, l, rfl⟩ := List.exists_cons_of_length_pos (l := l) (by omega)
  simp only [List.length_cons] at h
  obtain ⟨c17, l, rfl⟩ := List.exists_cons_of_length_pos (l := l) (by omega)
  simp only [List.length_cons] at h
  obtain ⟨c18, l, rfl⟩ := List.exists_cons_of_length_pos (l := l) (by omega)
  simp only [List.length_cons] at h
  obtain ⟨c19, l, rfl⟩ := List.exists_cons_of_length_pos (l := l) (by omega)
  simp only [List.length_cons] at h
  obtain ⟨c20, l, rfl⟩ := List.exists_cons_of_length_pos (l := l) (by omega)
  simp only [List.length_cons] at h
  obtain ⟨c21, l, rfl⟩ := List.exists_cons_of_length_pos (l := l) (by omega)
  simp only [List.length_cons] at h
  obtain ⟨c22, l, rfl⟩ := List.exists_cons_of_length_pos (l := l) (by omega)
  simp only [List.length_cons] at h
  obtain ⟨c23, l, rfl⟩ := List.exists_cons_of_length_pos (l := l) (by omega)
  simp only [List.length_cons] at h
  obtain ⟨c24, l, rfl⟩ := List.exists_cons_of_length_pos (l := l) (by omega)
  simp only [List.length_cons] at h
  obtain ⟨c25, l, rfl⟩ := List.exists_cons_of_length_pos (l := l) (by omega)
  simp only [List.length_cons] at h
  obtain ⟨c26, l, rfl⟩ := List.exists_cons_of_length_pos (l := l) (by omega)
  simp only [List.length_cons] at h
  obtain ⟨c27, l, rfl⟩ := List.exists_cons_of_length_pos (l := l) (by omega)
  simp only [List.length_cons] at h
  obtain ⟨c28, l, rfl⟩ := List.exists_cons_of_length_pos (l := l) (by omega)
  simp only [List.length_cons] at h
  obtain ⟨c29, l, rfl⟩ := List.exists_cons_of_length_pos (l := l) (by omega)
  simp only [List.length_cons] at h
  obtain ⟨c30, l, rfl⟩ := List.exists_cons_of_length_pos (l := l) (by omega)
  simp only [List.length_cons] at h
  obtain ⟨c31, l, rfl⟩ := List.exists_cons_of_length_pos (l := l) (by omega)
  simp only [List.length_cons] at h
  obtain ⟨c32, l, rfl⟩ := List.exists_cons_of_length_pos (l := l) (by omega)
  simp only [List.length_cons] at h
  obtain ⟨c33, l, rfl⟩ := List.exists_cons_of_length_pos (l := l) (by omega)
  simp only [List.length_cons] at h
  obtain ⟨c34, l, rfl⟩ := List.exists_cons_of_length_pos (l := l) (by omega)
  simp only [List.length_cons] at h
  obtain ⟨c35, l, rfl⟩ := List.exists_cons_of_length_pos (l := l) (by omega)
  simp only [List.length_cons] at h
  obtain ⟨c36, l, rfl⟩ := List.exists_cons_of_length_pos (l := l) (by omega)
  simp only [List.length_cons] at h
  obtain ⟨c37, l, rfl⟩ := List.exists_cons_of_length_pos (l := l) (by omega)
  simp only [List.length_cons] at h
  obtain ⟨c38, l, rfl⟩ := List.exists_cons_of_length_pos (l := l) (by omega)
  simp only [List.length_cons] at h
  obtain ⟨c39, l, rfl⟩ := List.exists_cons_of_length_pos (l := l) (by omega)
  simp only [List.length_cons] at h
  obtain rfl := List.eq_nil_of_length_eq_zero (l := l) (by omega)
  exact ⟨c0, c1, c2, c3, c4, c5, c6, c7, c8, c9, c10, c11, c12, c13, c14, c15, c16, c17, c18, c19, c20, c21, c22, c23, c24, c25, c26, c27, c28, c29, c30, c31, c32, c33, c34, c35, c36, c37, c38, c39, rfl⟩

/-- BEHIND A CONTRACT THAT ENDS IN 'Below': every cell and every mark of what lay there before reads as it did. -/
theorem bcell {W w1 : World} (hb : Below W.heap.size W w1) : (∀ b o, b < W.heap.size → w1.cell? ⟨b, o, none⟩ = W.cell? ⟨b, o, none⟩) ∧ (∀ b o, b < W.heap.size → w1.frozen? ⟨b, o, none⟩ = W.frozen? ⟨b, o, none⟩) :=
  ⟨fun b o h => hb.cell (p := ⟨b, o, none⟩) h, fun b o h => hb.frozen (p := ⟨b, o, none⟩) h⟩
theorem fr_rows1 (w : World) (a : Obj) : (w.alloc a).heap[w.heap.size]? = some a := heap_alloc_new w a
theorem fr_rows2 (w : World) (a b : Obj) : ((w.alloc a).alloc b).heap[w.heap.size]? = some a ∧ ((w.alloc a).alloc b).heap[w.heap.size + 1]? = some b := by
  have h0 := heap_alloc_new w a
  have hn := heap_alloc_new (w.alloc a) b
  simp only [World.size_alloc] at hn
  exact ⟨(Below.heap_alloc _ _ _ (by simp only [World.size_alloc]; omega)).trans h0, hn⟩
theorem fr_rows3 (w : World) (a b c : Obj) : (((w.alloc a).alloc b).alloc c).heap[w.heap.size]? = some a ∧ (((w.alloc a).alloc b).alloc c).heap[w.heap.size + 1]? = some b ∧ (((w.alloc a).alloc b).alloc c).heap[w.heap.size + 1 + 1]? = some c := by
  obtain ⟨h0, h1⟩ := fr_rows2 w a b
  have hn := heap_alloc_new ((w.alloc a).alloc b) c
  simp only [World.size_alloc] at hn
  exact ⟨(Below.heap_alloc _ _ _ (by simp only [World.size_alloc]; omega)).trans h0, (Below.heap_alloc _ _ _ (by simp only [World.size_alloc]; omega)).trans h1, hn⟩
theorem fr_rows4 (w : World) (a b c d : Obj) : ((((w.alloc a).alloc b).alloc c).alloc d).heap[w.heap.size]? = some a ∧ ((((w.alloc a).alloc b).alloc c).alloc d).heap[w.heap.size + 1]? = some b ∧ ((((w.alloc a).alloc b).alloc c).alloc d).heap[w.heap.size + 1 + 1]? = some c ∧ ((((w.alloc a).alloc b).alloc c).alloc d).heap[w.heap.size + 1 + 1 + 1]? = some d := by
  obtain ⟨h0, h1, h2⟩ := fr_rows3 w a b c
  have hn := heap_alloc_new (((w.alloc a).alloc b).alloc c) d
  simp only [World.size_alloc] at hn
  exact ⟨(Below.heap_alloc _ _ _ (by simp only [World.size_alloc]; omega)).trans h0, (Below.heap_alloc _ _ _ (by simp only [World.size_alloc]; omega)).trans h1, (Below.heap_alloc _ _ _ (by simp only [World.size_alloc]; omega)).trans h2, hn⟩
theorem fr_rows5 (w : World) (a b c d e : Obj) : (((((w.alloc a).alloc b).alloc c).alloc d).alloc e).heap[w.heap.size]? = some a ∧ (((((w.alloc a).alloc b).alloc c).alloc d).alloc e).heap[w.heap.size + 1]? = some b ∧ (((((w.alloc a).alloc b).alloc c).alloc d).alloc e).heap[w.heap.size + 1 + 1]? = some c ∧ (((((w.alloc a).alloc b).alloc c).alloc d).alloc e).heap[w.heap.size + 1 + 1 + 1]? = some d ∧ (((((w.alloc a).alloc b).alloc c).alloc d).alloc e).heap[w.heap.size + 1 + 1 + 1 + 1]? = some e := by
  obtain ⟨h0, h1, h2, h3⟩ := fr_rows4 w a b c d
  have hn := heap_alloc_new ((((w.alloc a).alloc b).alloc c).alloc d) e
  simp only [World.size_alloc] at hn
  exact ⟨(Below.heap_alloc _ _ _ (by simp only [World.size_alloc]; omega)).trans h0, (Below.heap_alloc _ _ _ (by simp only [World.size_alloc]; omega)).trans h1, (Below.heap_alloc _ _ _ (by simp only [World.size_alloc]; omega)).trans h2, (Below.heap_alloc _ _ _ (by simp only [World.size_alloc]; omega)).trans h3, hn⟩
theorem fr_lt_or {a b : Int} {q : Prop} (h : a ≤ b → q) : b < a ∨ a ≤ b ∧ q := by
  by_cases g : a ≤ b
  · exact .inr ⟨g, h g⟩
  · exact .inl (by omega)
theorem fr_ret {k : IntKind} {a b : Int} (h : a = b) : Ending.returned (.int k a) = .returned (.int k b) := by rw [h]
theorem fr_ret2 {k : IntKind} {a b : Int} {v : Value} (h : a = b) : Ending.returned (.tuple #[.int k a, v]) = .returned (.tuple #[.int k b, v]) := by rw [h]
theorem fr_ret2b {k : IntKind} {a b : Int} {c d : Bool} (h : a = b) (h2 : c = d) : Ending.returned (.tuple #[.int k a, .bool c]) = .returned (.tuple #[.int k b, .bool d]) := by rw [h, h2]
theorem fr_retb {a b : Bool} (h : a = b) : Ending.returned (.bool a) = .returned (.bool b) := by rw [h]
/-- One cell of a struct whose cells stay a letter. -/
theorem fr_at_int {P : Program} {W : World} {r : Reach} {b0 : Nat} {ts : List TypeId} {cs : Array Value} {k : IntKind} (sz : cs.size = ts.length) (at0 : ∀ (i : Nat) (c : Value), cs[i]? = some c → ∃ u, ts[i]? = some u ∧ Cell.okWide P W r b0 u c)
    (i : Nat) (t : TypeId) (hi : ts[i]? = some t) (ht : P.underlying t = some (.int k)) : ∃ n, cs[i]? = some (.int k n) ∧ k.has n := by
  have hl : i < ts.length := (List.getElem?_eq_some_iff.1 hi).1
  have hc : cs[i]? = some (cs[i]'(by omega)) := Array.getElem?_eq_getElem (by omega)
  obtain ⟨u, hu, hk⟩ := at0 i _ hc
  obtain rfl := Option.some.inj (hu.symm.trans hi)
  obtain ⟨n, hn, hb⟩ := fr_cell_int ht hk
  exact ⟨n, by rw [hc, hn], hb⟩
end Go.Proofs.YtdmaekiejdahoaaDoor
