/-
  append onto a list of messages that a call owns; calls and loads at an operation of a region.
-/
import Derived.Test.YtmighkgjbohieaaPeerPass
import Derived.Maps.AppendAt
set_option linter.unusedVariables false
set_option linter.unusedSimpArgs false
namespace Go.Proofs.Ytmighkgjbohieaa
open Go.ChangeShapes Go.WideShapes Go.ChangeAt Go.RowKit Go.Great

/-- x is a slice of m cells that reads as 'news'. -/
def ReadsAs (w : World) (x : Value) (m : Nat) (news : List Value) : Prop :=
  ∃ ao c, x = .slice ao m c ∧ news.length = m ∧ (∀ u ∈ news, u.oneCell' = true) ∧ (m ≠ 0 → ∃ b o, ao = some ⟨b, o, none⟩ ∧ ∀ j u, news[j]? = some u → w.cell? ⟨b, o + j, none⟩ = some u)
theorem MsgIn.one {w : World} {x : Value} {m : List Int} (h : MsgIn w x m) : x.oneCell' = true := by
  obtain ⟨ao, cap, rfl, _⟩ := h
  rfl
theorem ListIn.reads {w : World} {v : Value} {ms : List (List Int)} (h : ListIn w v ms) : ∃ news, ReadsAs w v ms.length news ∧ ∀ (i : Nat) (m : List Int), ms[i]? = some m → ∃ x, news[i]? = some x ∧ MsgIn w x m ∧ m.length ≤ maxLen := by
  obtain ⟨ao, cap, rfl, h1, h2, h3⟩ := h
  by_cases h0 : ms = []
  · subst h0
    exact ⟨[], ⟨ao, cap, rfl, rfl, (fun u hu => (by cases hu)), (fun e => absurd rfl e)⟩, (fun i m hi => by simp at hi)⟩
  · obtain ⟨b, o, rfl, hc⟩ := h3 h0
    refine ⟨(List.range ms.length).map fun i => (w.cell? ⟨b, o + i, none⟩).getD undef, ⟨_, cap, rfl, by simp, fun u hu => ?_, fun _ => ⟨b, o, rfl, fun j u hj => ?_⟩⟩, fun i m hi => ?_⟩
    · obtain ⟨i, hi, rfl⟩ := List.mem_map.1 hu
      have hi' : i < ms.length := by simpa using hi
      obtain ⟨_, x, hx, hm⟩ := hc i ms[i] (List.getElem?_eq_getElem hi')
      rw [hx]
      exact hm.one
    · have hj' : j < ms.length := by
        have := (List.getElem?_eq_some_iff.1 hj).1
        simpa using this
      obtain ⟨_, x, hx, hm⟩ := hc j ms[j] (List.getElem?_eq_getElem hj')
      rw [List.getElem?_map, List.getElem?_range hj'] at hj
      simp only [Option.map_some, hx, Option.getD_some, Option.some.injEq] at hj
      rw [← hj, hx]
    · have hi' : i < ms.length := (List.getElem?_eq_some_iff.1 hi).1
      obtain ⟨hl, x, hx, hm⟩ := hc i m hi
      refine ⟨x, ?_, hm, hl⟩
      rw [List.getElem?_map, List.getElem?_range hi']
      simp only [Option.map_some, hx, Option.getD_some]
theorem OutAt.reads {w : World} {base : Nat} {v : Value} {ms : List (List Int)} (h : OutAt w base v ms) : ∃ news, ReadsAs w v ms.length news ∧ ∀ (i : Nat) (m : List Int), ms[i]? = some m → ∃ x, news[i]? = some x ∧ MsgAt w base x m := by
  obtain ⟨xs, ho, hm⟩ := h
  have hl : xs.length = ms.length := by simpa using ho.1
  have hone : ∀ u ∈ xs, u.oneCell' = true := fun u hu => by
    obtain ⟨i, hi, e⟩ := List.mem_iff_getElem.1 hu
    obtain ⟨x, hx, b, rfl, _⟩ := hm i ms[i] (List.getElem?_eq_getElem (by omega))
    rw [List.getElem?_eq_getElem hi, Option.some.injEq] at hx
    rw [← e, hx]
    rfl
  refine ⟨xs, ?_, hm⟩
  rcases ho.2 with ⟨rfl, h0⟩ | ⟨g, cap, cur, rfl, _, hg, hn, _, hs, htake⟩
  · exact ⟨none, 0, by rw [h0], hl, hone, fun e => absurd h0 e⟩
  · refine ⟨_, cap, rfl, hl, hone, fun _ => ⟨g, 0, rfl, fun j u hj => ?_⟩⟩
    rw [Nat.zero_add, cell_of_row _ _ _ _ _ _ hg]
    rw [← htake, List.getElem?_take] at hj
    split at hj
    · simpa using hj
    · cases hj
theorem listIn_of_row {w : World} {base n : Nat} {v : Value} {xs : List Value} {ms : List (List Int)} (ho : w.ownsRow base 45 1 v n xs) (hn : n = ms.length) (hl : ms.length ≤ maxLen)
    (hm : ∀ (i : Nat) (m : List Int), ms[i]? = some m → ∃ x, xs[i]? = some x ∧ MsgIn w x m ∧ m.length ≤ maxLen) : ListIn w v ms := by
  subst hn
  rcases ho.2 with ⟨rfl, h0⟩ | ⟨g, cap, cur, rfl, _, hg, hc, _, hs, htake⟩
  · have : ms = [] := List.eq_nil_of_length_eq_zero h0
    subst this
    exact ⟨none, 0, rfl, Nat.le_refl _, by unfold maxLen; decide, fun h => absurd rfl h⟩
  · refine ⟨_, cap, rfl, hc, hl, fun _ => ⟨g, 0, rfl, fun i m hi => ?_⟩⟩
    obtain ⟨x, hx, hmm, hml⟩ := hm i m hi
    refine ⟨hml, x, ?_, hmm⟩
    rw [Nat.zero_add, cell_of_row _ _ _ _ _ _ hg]
    rw [← htake, List.getElem?_take] at hx
    split at hx
    · simpa using hx
    · cases hx

theorem u39 : Try.prog.underlying 39 = some (.slice 45) := Try.underlying39
theorem run_append_list (w : World) (ty : TypeId) (base : Nat) (v : Value) (n : Nat) (xs : List Value) (hown : w.ownsRow base 45 1 v n xs) (x : Value) (m : Nat) (news : List Value) (hx : ReadsAs w x m news) (hnm : n + m ≤ 1000000) (hbase : base ≤ w.heap.size) :
    ∃ v' w', (Builtin.append_ #[39, 39] ty #[v, x]).run Try.prog w = .ok v' w' ∧ w'.ownsRow base 45 1 v' (n + m) (xs ++ news) ∧ w.grownBy w' v.ownBlock ∧ (v'.ownBlock = v.ownBlock ∨ v'.ownBlock = some w.heap.size) := by
  obtain ⟨ao, c, rfl, hl, h1, hc⟩ := hx
  cases ao with
  | some ad =>
    have hnews : ∀ j u, news[j]? = some u → w.cell? (ad.add j) = some u := fun j u hj => by
      have hm : m ≠ 0 := fun e => by
        have := (List.getElem?_eq_some_iff.1 hj).1
        omega
      obtain ⟨b, o, e, hcc⟩ := hc hm
      cases e
      rw [Addr.add_mid]
      exact hcc j u hj
    obtain ⟨v', w', r1, r2, r3, _, r5⟩ := run_append_own_at (P := Try.prog) w base 39 ty 45 i45 (.slice none 0 0) 1 24 u39 i45_is i45_zero i45_size i45_bytes rfl (by decide) v n xs hown ad m c news (by omega) hnews h1 (by unfold maxLen; omega) (by omega) hbase
    exact ⟨v', w', r1, r2, r3, r5⟩
  | none =>
    have hm : m = 0 := by
      by_cases h0 : m = 0
      · exact h0
      · obtain ⟨b, o, e, _⟩ := hc h0
        cases e
    subst hm
    have hn : news = [] := List.eq_nil_of_length_eq_zero hl
    subst hn
    refine ⟨v, w, ?_, by simpa using hown, ⟨rfl, rfl, rfl, Nat.le_refl _, fun _ _ _ => rfl⟩, .inl rfl⟩
    rcases hown.2 with ⟨rfl, rfl⟩ | ⟨g, cap, cur, rfl, hbg, hg, hnc, hcm, hcs, htake⟩
    · simp [Builtin.append_, run_underlying u39, sizeOf, typeInfo, i45_is, i45_size, Builtin.lenOf, Builtin.firstCells]
    · simp [Builtin.append_, run_underlying u39, sizeOf, typeInfo, i45_is, i45_size, Builtin.lenOf, Builtin.firstCells, hnc, storeCells, Sem.run_bind]
theorem wp_append_list {o : Oper} {a : Act} {w : World} {K : Act → World → Prop} {Q : Exit → Act → World → Prop} (s x : Operand)
    (ho : o.op = .call { callee := .builtin .append, args := #[s, x], argTypes := #[39, 39] })
    (base : Nat) (v : Value) (n : Nat) (xs : List Value) (hs : a.eval s = v) (hown : w.ownsRow base 45 1 v n xs) (y : Value) (m : Nat) (news : List Value) (hy : a.eval x = y) (hx : ReadsAs w y m news) (hnm : n + m ≤ 1000000) (hbase : base ≤ w.heap.size)
    (h : ∀ v' w', w'.ownsRow base 45 1 v' (n + m) (xs ++ news) → w.grownBy w' v.ownBlock → (v'.ownBlock = v.ownBlock ∨ v'.ownBlock = some w.heap.size) → K (a.put o.dst v') w') : o.wp Try.prog a w K Q := by
  obtain ⟨v', w', hr, h2, h3, h4⟩ := run_append_list w o.type base v n xs hown y m news hx hnm hbase
  unfold Oper.wp execOp
  simp only [ho, resolve, invoke, builtin, Sem.run_bind, Sem.run_pure, Result.andThen_ok, List.map_toArray, List.map_cons, List.map_nil, hs, hy, hr]
  exact h v' w' h2 h3 h4
theorem wpList_append_list {ops : Array Oper} {rest : List Oper} {o : Oper} {a : Act} {w : World} {Q : Exit → Act → World → Prop} (hgd : o.guard = none) (d : Option Tmp) (hd : o.dst = d) (s x : Operand)
    (ho : o.op = .call { callee := .builtin .append, args := #[s, x], argTypes := #[39, 39] })
    (base : Nat) (v : Value) (n : Nat) (xs : List Value) (hs : a.eval s = v) (hown : w.ownsRow base 45 1 v n xs) (y : Value) (m : Nat) (news : List Value) (hy : a.eval x = y) (hx : ReadsAs w y m news) (hnm : n + m ≤ 1000000) (hbase : base ≤ w.heap.size)
    (h : ∀ v' w', w'.ownsRow base 45 1 v' (n + m) (xs ++ news) → w.grownBy w' v.ownBlock → (v'.ownBlock = v.ownBlock ∨ v'.ownBlock = some w.heap.size) → wpList Try.prog ops Q rest (a.put d v') w') : wpList Try.prog ops Q (o :: rest) a w := by
  subst hd
  exact wpList_plain hgd fun _ hK => wp_append_list s x ho base v n xs hs hown y m news hy hx hnm hbase fun v' w' h1 h2 h3 => hK _ _ (h v' w' h1 h2 h3)
/-- A call of a Go function at an operation. -/
theorem wp_call_fn {P : Program} {o : Oper} {a : Act} {w : World} {K : Act → World → Prop} {Q : Exit → Act → World → Prop} (f : FuncId) (vals : Array Value) (R : Ending → World → Prop)
    (hrun : (execOp a.eval o).run P w = .ok (.enter f vals) w) (hC : Calls P f vals w R) (hk : ∀ e w', R e w' → ∃ u, e = .returned u ∧ K (a.put o.dst u) w') : o.wp P a w K Q := by
  unfold Oper.wp
  rw [hrun, Oper.upon_enter]
  refine hC.mono fun e w' he => ?_
  obtain ⟨u, rfl, hK⟩ := hk e w' he
  exact hK
/-- An operation that yields a value, said by the caller. -/
theorem wp_op_value {P : Program} {o : Oper} {a : Act} {w : World} {K : Act → World → Prop} {Q : Exit → Act → World → Prop} (v : Value) (w' : World) (hrun : (execOp a.eval o).run P w = .ok (.value v) w') (h : K (a.put o.dst v) w') : o.wp P a w K Q := by
  unfold Oper.wp
  rw [hrun, Oper.upon_value]
  exact h
theorem wpList_store_midTo {P : Program} {ops : Array Oper} {rest : List Oper} {op : Oper} {a : Act} {w : World} {Q : Exit → Act → World → Prop} (hgd : op.guard = none) (hd : op.dst = none) (ty : TypeId) (x y : Operand) (ho : op.op = .store ty x y)
    (b o : Nat) (cells : Array Value) (hx : a.eval x = .pointer (some ⟨b, o, none⟩)) (hy : a.eval y = .agg cells)
    (ht : w.there b o cells.size) (hi : (P.info? ty).map (·.size) = some cells.size) (h1 : cells.all (·.oneCell') = true)
    (h : wpList P ops Q rest a (w.setCells b o cells.toList)) : wpList P ops Q (op :: rest) a w :=
  wpList_store_mid hgd ty x y ho b o cells hx hy ht hi h1 (by rw [hd]; exact h)
theorem yields_sub {P : Program} {ops : Array Oper} {S : World → Prop} {op : Oper} {a : Act} (hw : Region.wanted op (yielded ops a.tmps) = true) (ty : TypeId) (x : Operand) (ho : op.op = .load ty x)
    (b o : Nat) (hx : a.eval x = .pointer (some ⟨b, o, none⟩)) (cs : Array Value) (d : TypeDesc) (hS : ∀ w, S w → w.rangeAt b o cs.toList)
    (hu : P.underlying ty = some d) (hd : d.isRow = true) (hi : (P.info? ty).map (·.size) = some cs.size) : YieldsIf P ops S op (.agg cs) a := by
  have := yieldsIf_load_mid (ops := ops) (S := S) hw ty x ho b o hx cs.toList d hS hu hd (by simpa using hi)
  simpa using this
theorem grownBy_below {w w' : World} {row : Option Nat} {B : Nat} (h : w.grownBy w' row) (hB : B ≤ w.heap.size) (hr : ∀ k, row = some k → B ≤ k) : Below B w w' :=
  ⟨h.os, h.tape, h.output, h.size, fun k hk => h.block k (by omega) (fun e => by have := hr k e.symm; omega)⟩
/-- A list of messages all of whose memory lies in blocks that are 'ok'. -/
def MsgOkIn (ok : Nat → Prop) (w : World) (x : Value) (m : List Int) : Prop := m.length ≤ maxLen ∧ MsgIn w x m ∧ (m ≠ [] → ∀ mb, x.ownBlock = some mb → ok mb)
def ListOk (ok : Nat → Prop) (w : World) (v : Value) (ms : List (List Int)) : Prop :=
  ∃ ao cap, v = .slice ao ms.length cap ∧ ms.length ≤ cap ∧ ms.length ≤ maxLen ∧ (ms ≠ [] → ∃ b o, ao = some ⟨b, o, none⟩ ∧ ok b ∧ ∀ (i : Nat) (m : List Int), ms[i]? = some m → ∃ x, w.cell? ⟨b, o + i, none⟩ = some x ∧ MsgOkIn ok w x m)
theorem ListOk.listIn {ok : Nat → Prop} {w : World} {v : Value} {ms : List (List Int)} (h : ListOk ok w v ms) : ListIn w v ms := by
  obtain ⟨ao, cap, rfl, h1, h2, h3⟩ := h
  refine ⟨ao, cap, rfl, h1, h2, fun hm => ?_⟩
  obtain ⟨b, o, e, _, hc⟩ := h3 hm
  exact ⟨b, o, e, fun i m hi => by
    obtain ⟨x, hx, hl, hmi, _⟩ := hc i m hi
    exact ⟨hl, x, hx, hmi⟩⟩
theorem MsgIn.block {w : World} {x : Value} {m : List Int} (h : MsgIn w x m) (hm : m ≠ []) : ∀ mb, x.ownBlock = some mb → mb < w.heap.size := by
  obtain ⟨ao, cap, rfl, _, _, h3⟩ := h
  obtain ⟨b, o, rfl, hc⟩ := h3 hm
  intro mb e
  cases e
  cases m with
  | nil => exact absurd rfl hm
  | cons y ys => exact World.block_lt_of_cell? w _ (hc 0 y rfl)
theorem ListIn.ok {w : World} {v : Value} {ms : List (List Int)} (h : ListIn w v ms) : ListOk (fun b => b < w.heap.size) w v ms := by
  obtain ⟨ao, cap, rfl, h1, h2, h3⟩ := h
  refine ⟨ao, cap, rfl, h1, h2, fun hm => ?_⟩
  obtain ⟨b, o, e, hc⟩ := h3 hm
  refine ⟨b, o, e, ?_, fun i m hi => ?_⟩
  · cases ms with
    | nil => exact absurd rfl hm
    | cons y ys =>
      obtain ⟨_, x, hx, _⟩ := hc 0 y rfl
      exact World.block_lt_of_cell? w _ hx
  · obtain ⟨hl, x, hx, hmi⟩ := hc i m hi
    exact ⟨x, hx, hl, hmi, hmi.block⟩
theorem ListOk.mono {ok ok' : Nat → Prop} {w : World} {v : Value} {ms : List (List Int)} (h : ListOk ok w v ms) (hk : ∀ b, ok b → ok' b) : ListOk ok' w v ms := by
  obtain ⟨ao, cap, rfl, h1, h2, h3⟩ := h
  refine ⟨ao, cap, rfl, h1, h2, fun hm => ?_⟩
  obtain ⟨b, o, e, hb, hc⟩ := h3 hm
  exact ⟨b, o, e, hk b hb, fun i m hi => by
    obtain ⟨x, hx, hl, hmi, hq⟩ := hc i m hi
    exact ⟨x, hx, hl, hmi, fun hm mb e => hk mb (hq hm mb e)⟩⟩
/-- The blocks that are ok read as they did. -/
def Kept (ok : Nat → Prop) (w w' : World) : Prop := ∀ b, ok b → b < w.heap.size → w'.heap[b]? = w.heap[b]?
theorem kept_cell {ok : Nat → Prop} {w w' : World} (hk : Kept ok w w') {b o : Nat} {x : Value} (hb : ok b) (h : w.cell? ⟨b, o, none⟩ = some x) : w'.cell? ⟨b, o, none⟩ = some x :=
  (World.cell?_of_block (hk b hb (World.block_lt_of_cell? w _ h))).trans h
theorem MsgOkIn.keep {ok : Nat → Prop} {w w' : World} {x : Value} {m : List Int} (h : MsgOkIn ok w x m) (hk : Kept ok w w') : MsgOkIn ok w' x m := by
  obtain ⟨hl, ⟨ao, cap, rfl, h1, h2, h3⟩, hq⟩ := h
  refine ⟨hl, ⟨ao, cap, rfl, h1, h2, fun hm => ?_⟩, hq⟩
  obtain ⟨b, o, rfl, hc⟩ := h3 hm
  exact ⟨b, o, rfl, fun i y hi => kept_cell hk (hq hm b rfl) (hc i y hi)⟩
theorem ListOk.keep {ok : Nat → Prop} {w w' : World} {v : Value} {ms : List (List Int)} (h : ListOk ok w v ms) (hk : Kept ok w w') : ListOk ok w' v ms := by
  obtain ⟨ao, cap, rfl, h1, h2, h3⟩ := h
  refine ⟨ao, cap, rfl, h1, h2, fun hm => ?_⟩
  obtain ⟨b, o, e, hb, hc⟩ := h3 hm
  exact ⟨b, o, e, hb, fun i m hi => by
    obtain ⟨x, hx, hmi⟩ := hc i m hi
    exact ⟨x, kept_cell hk hb hx, hmi.keep hk⟩⟩
theorem ListOk.reads {ok : Nat → Prop} {w : World} {v : Value} {ms : List (List Int)} (h : ListOk ok w v ms) : ∃ news, (∀ w', Kept ok w w' → ReadsAs w' v ms.length news) ∧ ∀ (i : Nat) (m : List Int), ms[i]? = some m → ∃ x, news[i]? = some x ∧ MsgOkIn ok w x m := by
  obtain ⟨ao, cap, rfl, h1, h2, h3⟩ := h
  by_cases h0 : ms = []
  · subst h0
    exact ⟨[], fun w' _ => ⟨ao, cap, rfl, rfl, (fun u hu => (by cases hu)), (fun e => absurd rfl e)⟩, (fun i m hi => by simp at hi)⟩
  · obtain ⟨b, o, rfl, hb, hc⟩ := h3 h0
    refine ⟨(List.range ms.length).map fun i => (w.cell? ⟨b, o + i, none⟩).getD undef, fun w' hk => ⟨_, cap, rfl, by simp, fun u hu => ?_, fun _ => ⟨b, o, rfl, fun j u hj => ?_⟩⟩, fun i m hi => ?_⟩
    · obtain ⟨i, hi, rfl⟩ := List.mem_map.1 hu
      have hi' : i < ms.length := by simpa using hi
      obtain ⟨x, hx, _, hm, _⟩ := hc i ms[i] (List.getElem?_eq_getElem hi')
      rw [hx]
      exact hm.one
    · have hj' : j < ms.length := by
        have := (List.getElem?_eq_some_iff.1 hj).1
        simpa using this
      obtain ⟨x, hx, hm⟩ := hc j ms[j] (List.getElem?_eq_getElem hj')
      rw [List.getElem?_map, List.getElem?_range hj'] at hj
      simp only [Option.map_some, hx, Option.getD_some, Option.some.injEq] at hj
      rw [← hj]
      exact kept_cell hk hb hx
    · have hi' : i < ms.length := (List.getElem?_eq_some_iff.1 hi).1
      obtain ⟨x, hx, hm⟩ := hc i m hi
      refine ⟨x, ?_, hm⟩
      rw [List.getElem?_map, List.getElem?_range hi']
      simp only [Option.map_some, hx, Option.getD_some]
theorem listOk_of_row {ok : Nat → Prop} {w : World} {base n : Nat} {v : Value} {xs : List Value} {ms : List (List Int)} (ho : w.ownsRow base 45 1 v n xs) (hb : ∀ b, base ≤ b → ok b) (hn : n = ms.length) (hl : ms.length ≤ maxLen)
    (hm : ∀ (i : Nat) (m : List Int), ms[i]? = some m → ∃ x, xs[i]? = some x ∧ MsgOkIn ok w x m) : ListOk ok w v ms := by
  subst hn
  rcases ho.2 with ⟨rfl, h0⟩ | ⟨g, cap, cur, rfl, hbg, hg, hc, _, hs, htake⟩
  · have : ms = [] := List.eq_nil_of_length_eq_zero h0
    subst this
    exact ⟨none, 0, rfl, Nat.le_refl _, by unfold maxLen; decide, fun h => absurd rfl h⟩
  · refine ⟨_, cap, rfl, hc, hl, fun _ => ⟨g, 0, rfl, hb g hbg, fun i m hi => ?_⟩⟩
    obtain ⟨x, hx, hmm⟩ := hm i m hi
    refine ⟨x, ?_, hmm⟩
    rw [Nat.zero_add, cell_of_row _ _ _ _ _ _ hg]
    rw [← htake, List.getElem?_take] at hx
    split at hx
    · simpa using hx
    · cases hx
theorem ListOk.tail {ok : Nat → Prop} {w : World} {v : Value} {m : List Int} {r : List (List Int)} (h : ListOk ok w v (m :: r)) : ∃ b o cap, v = .slice (some ⟨b, o, none⟩) (r.length + 1) cap ∧ r.length + 1 ≤ cap ∧ r.length + 1 ≤ maxLen ∧ (∃ x, w.cell? ⟨b, o, none⟩ = some x ∧ MsgIn w x m) ∧ ListOk ok w (.slice (if cap = 1 then some ⟨b, o, none⟩ else some ⟨b, o + 1, none⟩) r.length (cap - 1)) r := by
  obtain ⟨ao, cap, rfl, h1, h2, h3⟩ := h
  obtain ⟨b, o, rfl, hb, hc⟩ := h3 (by simp)
  simp only [List.length_cons] at h1 h2
  refine ⟨b, o, cap, rfl, h1, h2, ?_, ⟨_, cap - 1, rfl, by omega, by omega, fun hr => ⟨b, o + 1, ?_, hb, fun i m' hi => ?_⟩⟩⟩
  · obtain ⟨x, hx, _, hm, _⟩ := hc 0 m rfl
    exact ⟨x, hx, hm⟩
  · rw [if_neg]
    intro e
    exact hr (List.eq_nil_of_length_eq_zero (by omega))
  · obtain ⟨x, hx, hm⟩ := hc (i + 1) m' (by simpa using hi)
    exact ⟨x, by rw [show o + 1 + i = o + (i + 1) by omega]; exact hx, hm⟩
theorem same_yes (v1 v2 : Value) (ms1 ms2 : List (List Int)) (he : ms1 = ms2) (w : World) (h1 : ListIn w v1 ms1) (h2 : ListIn w v2 ms2) : Calls Try.prog 22 #[v1, v2] w fun e w' => e = .returned (.bool true) ∧ Below w.heap.size w w' := by
  have := same_any v1 v2 ms1 ms2 w h1 h2
  rw [decide_eq_true he] at this
  exact this
theorem msg_form {w : World} {base : Nat} {x : Value} {m : List Int} (h : MsgAt w base x m) (hl : m.length = 5) : ∃ b, x = .slice (some ⟨b, 0, none⟩) 5 5 := by
  obtain ⟨b, rfl, _⟩ := h
  rw [hl]
  exact ⟨b, rfl⟩
theorem setRow_allocAt {w : World} {c cs : Array Value} {t : TypeId} {b : Nat} (h : w.heap.size = b) : (w.alloc (.cells c t)).setRow b cs = w.alloc (.cells cs t) := by
  subst h
  exact setRow_alloc w c cs t
theorem heap_alloc_at {w : World} {o : Obj} {b : Nat} (h : w.heap.size = b) : (w.alloc o).heap[b]? = some o := by
  subst h
  exact heap_alloc_new w o
theorem range_row {w : World} {b : Nat} {cs : Array Value} {t : TypeId} {fr : Nat × Nat} (h : w.heap[b]? = some (.cells cs t fr)) : w.rangeAt b 0 cs.toList := fun j v hv => by
  rw [cell_of_row _ _ _ _ _ _ h, Nat.zero_add]
  simpa using hv
theorem row_slice {w : World} {base n : Nat} {e : TypeId} {v : Value} {xs : List Value} (h : w.ownsRow base e 1 v n xs) : ∃ ao n c, v = .slice ao n c := by
  rcases h.2 with ⟨rfl, _⟩ | ⟨g, cap, cur, rfl, _⟩
  · exact ⟨_, _, _, rfl⟩
  · exact ⟨_, _, _, rfl⟩
/-- Two lists one behind the other in a row of the call's own. -/
theorem listOk_app {ok : Nat → Prop} {w : World} {base n : Nat} {v : Value} {xs news1 news2 : List Value} {ms1 ms2 : List (List Int)} (ho : w.ownsRow base 45 1 v n xs) (hxs : xs = news1 ++ news2) (hb : ∀ b, base ≤ b → ok b) (hn : n = ms1.length + ms2.length) (hl : ms1.length + ms2.length ≤ maxLen) (l1 : news1.length = ms1.length)
    (h1 : ∀ (i : Nat) (m : List Int), ms1[i]? = some m → ∃ x, news1[i]? = some x ∧ MsgOkIn ok w x m) (h2 : ∀ (i : Nat) (m : List Int), ms2[i]? = some m → ∃ x, news2[i]? = some x ∧ MsgOkIn ok w x m) : ListOk ok w v (ms1 ++ ms2) := by
  subst hxs
  refine listOk_of_row ho hb (by rw [hn, List.length_append]) (by rw [List.length_append]; exact hl) fun i m hi => ?_
  by_cases hlt : i < ms1.length
  · rw [List.getElem?_append_left hlt] at hi
    rw [List.getElem?_append_left (by omega)]
    exact h1 i m hi
  · rw [List.getElem?_append_right (by omega)] at hi
    rw [List.getElem?_append_right (by omega), l1]
    exact h2 _ m hi
theorem OutAt.listOk {w : World} {base : Nat} {v : Value} {ms : List (List Int)} (h : OutAt w base v ms) (hm : ∀ m ∈ ms, MsgOk m) (hl : ms.length ≤ maxLen) : ListOk (fun b => base ≤ b) w v ms := by
  obtain ⟨xs, ho, hx⟩ := h
  refine listOk_of_row ho (fun b q => q) rfl hl fun i m hi => ?_
  obtain ⟨x, hxi, hma⟩ := hx i m hi
  have hok := hm m (List.mem_of_getElem? hi)
  refine ⟨x, hxi, by rw [hok.1]; unfold maxLen; decide, hma.read hok.2, fun _ mb e => ?_⟩
  obtain ⟨b, rfl, hb, _⟩ := hma
  cases e
  exact hb
theorem kept_refl (ok : Nat → Prop) (w : World) : Kept ok w w := fun _ _ _ => rfl
theorem kept_below {ok : Nat → Prop} {w w' : World} (h : Below w.heap.size w w') : Kept ok w w' := fun b _ hb => h.block b hb
theorem kept_trans {ok : Nat → Prop} {a b c : World} (h : Kept ok a b) (hs : a.heap.size ≤ b.heap.size) (k : Kept ok b c) : Kept ok a c := fun i hi hl => (k i hi (by omega)).trans (h i hi hl)
theorem kept_setCell {ok : Nat → Prop} {w : World} {p : Addr} {u : Value} (h : ¬ ok p.block) : Kept ok w (w.setCell p u) := fun b hb _ => heap_setCell_other w p b u (fun e => h (e ▸ hb))
theorem kept_setCells {ok : Nat → Prop} {w : World} {b o : Nat} {vs : List Value} (h : ¬ ok b) : Kept ok w (w.setCells b o vs) := fun c hc _ => heap_setCells_far b vs o w c (fun e => h (e ▸ hc))
theorem kept_setRow {ok : Nat → Prop} {w : World} {b : Nat} {cs : Array Value} (h : ¬ ok b) : Kept ok w (w.setRow b cs) := fun c hc _ => setRow_other w b c cs (fun e => h (e ▸ hc))
theorem kept_grown {ok : Nat → Prop} {w w' : World} {row : Option Nat} (h : w.grownBy w' row) (hn : ∀ k, row = some k → ok k → False) : Kept ok w w' := fun b hb hl => h.block b hl (fun e => hn b e.symm hb)
end Go.Proofs.Ytmighkgjbohieaa
