/-
  Laws for 'return x.Link, x.out, api.OK': a link read out of an end's row, the result's cell, three results.
-/
import Derived.Test.YtmighkgjbohieaaPeerBegun
import Derived.Deep.MidRow
set_option linter.unusedVariables false
set_option linter.unusedSimpArgs false
namespace Go.Proofs.Ytmighkgjbohieaa
open Go.ChangeShapes Go.WideShapes Go.ChangeAt Go.RowKit Go.Great

theorem range_end {w : World} {b : Nat} {k : Lk} {now : Int} {v : Value} (h : w.heap[b]? = some (.cells (endCells k now v) 72)) : w.rangeAt b 0 k.cells.toList := by
  have := World.rangeAt_of_block h 0 17
  exact this
theorem yields_row {P : Program} {ops : Array Oper} {S : World → Prop} {op : Oper} {a : Act} (hw : Region.wanted op (yielded ops a.tmps) = true) (ty : TypeId) (x : Operand) (ho : op.op = .load ty x)
    (b : Nat) (hx : a.eval x = .pointer (some ⟨b, 0, none⟩)) (cs : Array Value) (d : TypeDesc) (hS : ∀ w, S w → w.rangeAt b 0 cs.toList)
    (hu : P.underlying ty = some d) (hd : d.isRow = true) (hi : (P.info? ty).map (·.size) = some cs.size) : YieldsIf P ops S op (.agg cs) a := by
  have := yieldsIf_load_mid (ops := ops) (S := S) hw ty x ho b 0 hx cs.toList d hS hu hd (by simpa using hi)
  simpa using this
theorem results_row3 {P : Program} {fn : Func} {p t1 t2 : Tmp} {ty : TypeId} (h : fn.results = #[.cell p ty, .tmp t1, .tmp t2]) (tmps : Array Value) (w : World) (g : Nat) (t : TypeId) (cs : Array Value) (fr : Nat × Nat) (d : TypeDesc)
    (hp : tmps.getD p undef = .pointer (some ⟨g, 0, none⟩)) (hg : w.heap[g]? = some (.cells cs t fr))
    (hu : P.underlying ty = some d) (hd : (match d with | .struct _ | .array _ _ => true | _ => false) = true) (hi : (P.info? ty).map (·.size) = some cs.size) :
    (results fn tmps).run P w = .ok (.tuple #[.agg cs, tmps.getD t1 undef, tmps.getD t2 undef]) w := by
  have hp' : tmps[p]?.getD undef = .pointer (some ⟨g, 0, none⟩) := by simpa using hp
  simp [results, h, hp', asAddr, run_loadVar_row w g t ty cs fr d hg hu hd hi, Sem.run_bind]
def zeroLk : Lk := ⟨0, 0, 0, 0, 0, 0, 0, 0, 0, 0, 0, 0, 0, 0, 0, 0, 0⟩
/-- What Start, Close, Tick and Handle hand back: a link, messages in new memory, an error. -/
def Ret3 (w : World) (k : Lk) (ms : List (List Int)) (er : Int) (e : Ending) (w' : World) : Prop := ∃ v, e = .returned (.tuple #[.agg k.cells, v, .int .i64 er]) ∧ OutAt w' w.heap.size v ms ∧ Below w.heap.size w w'
theorem OutAt.mono {w : World} {b b' : Nat} {v : Value} {ms : List (List Int)} (h : OutAt w b v ms) (hb : b' ≤ b) : OutAt w b' v ms := by
  obtain ⟨xs, ho, hm⟩ := h
  refine ⟨xs, ⟨ho.1, ?_⟩, fun i m hi => ?_⟩
  · rcases ho.2 with h0 | ⟨g, cap, cur, h1, h2, h3, h4⟩
    · exact .inl h0
    · exact .inr ⟨g, cap, cur, h1, by omega, h3, h4⟩
  · obtain ⟨x, hx, c, h1, h2, h3⟩ := hm i m hi
    exact ⟨x, hx, c, h1, by omega, h3⟩
theorem setRow_other (w : World) (g b : Nat) (cs : Array Value) (h : b ≠ g) : (w.setRow g cs).heap[b]? = w.heap[b]? := by
  simp only [World.setRow, Array.getElem?_modify]
  rw [if_neg (fun e => h e.symm)]
theorem OutAt.setRow {w : World} {b : Nat} {v : Value} {ms : List (List Int)} (h : OutAt w b v ms) (g : Nat) (hg : g < b) (cs : Array Value) : OutAt (w.setRow g cs) b v ms := by
  obtain ⟨xs, ho, hm⟩ := h
  refine ⟨xs, ⟨ho.1, ?_⟩, fun i m hi => ?_⟩
  · rcases ho.2 with h0 | ⟨g', cap, cur, h1, h2, h3, h4⟩
    · exact .inl h0
    · exact .inr ⟨g', cap, cur, h1, h2, (setRow_other _ _ _ _ (by omega)).trans h3, h4⟩
  · obtain ⟨x, hx, hmm⟩ := hm i m hi
    exact ⟨x, hx, hmm.keep fun c hc _ _ => setRow_other _ _ _ _ (by omega)⟩
theorem OutAt.drew {w : World} {b : Nat} {v : Value} {ms : List (List Int)} (h : OutAt w b v ms) : OutAt w.drew b v ms := h
theorem below_setRow' {w w' : World} {B g : Nat} (h : Below B w w') (hg : B ≤ g) (cs : Array Value) : Below B w (w'.setRow g cs) :=
  ⟨h.os, h.tape, h.output, by simp only [size_setRow]; exact h.size, fun k hk => (setRow_other _ _ _ _ (by omega)).trans (h.block k hk)⟩
theorem one_cells (k : Lk) : k.cells.all (·.oneCell') = true := by
  obtain ⟨o0, o1, o2, o3, o4, o5, p0, p1, p2, p3, p4, p5, st, id, ot, tr, du⟩ := k
  simp [Lk.cells, Value.oneCell']
end Go.Proofs.Ytmighkgjbohieaa
