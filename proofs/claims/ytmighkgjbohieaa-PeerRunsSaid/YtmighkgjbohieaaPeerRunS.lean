/-
  The state of the law's run in memory, and what its steps do to it.
-/
import Derived.Test.YtmighkgjbohieaaPeerRunP
set_option linter.unusedVariables false
set_option linter.unusedSimpArgs false
namespace Go.Proofs.Ytmighkgjbohieaa
open Go.ChangeShapes Go.WideShapes Go.ChangeAt Go.RowKit Go.Great

structure St (w0 w : World) (va : Value) (n : Nat) (x y : Lk) (s0 s1 : List (List Int)) (v0 v1 : Value) : Prop where
  below : Below w0.heap.size w0 w
  rp : w.heap[w0.heap.size]? = some (.cells (pairCells x y) 28)
  ro : w.heap[w0.heap.size + 1 + 1]? = some (.cells #[v0, v1] 40)
  all : AllAt w (w0.heap.size + 1) va n
  l0 : OutAt w (w0.heap.size + 3) v0 s0
  l1 : OutAt w (w0.heap.size + 3) v1 s1
  ap : ∀ g, v0.ownBlock = some g → v1.ownBlock = some g → False
theorem ty_ne {w : World} {g g' : Nat} {c c' : Array Value} {t t' : TypeId} {fr fr' : Nat × Nat} (h : w.heap[g]? = some (.cells c t fr)) (h' : w.heap[g']? = some (.cells c' t' fr')) (ht : t ≠ t') : g ≠ g' := by
  rintro rfl
  rw [h] at h'
  simp only [Option.some.injEq, Obj.cells.injEq] at h'
  exact ht h'.2.1
theorem grownBy_setCell (w : World) (p : Addr) (u : Value) : w.grownBy (w.setCell p u) (some p.block) :=
  ⟨rfl, rfl, rfl, by rw [World.size_setCell]; exact Nat.le_refl _, fun k _ hne => heap_setCell_other w p k u (fun e => hne (by rw [e]))⟩
section
variable {w0 w w' : World} {va : Value} {n : Nat} {x y : Lk} {s0 s1 : List (List Int)} {v0 v1 : Value}
theorem St.step (h : St w0 w va n x y s0 s1 v0 v1) (hb : Below w.heap.size w w') : St w0 w' va n x y s0 s1 v0 v1 :=
  ⟨below_step h.below hb, row_below hb h.rp, row_below hb h.ro, h.all.kept (fun b _ hl => hb.block b hl), h.l0.below hb, h.l1.below hb, h.ap⟩
theorem St.link0 (h : St w0 w va n x y s0 s1 v0 v1) (k : Lk) : St w0 (w.setCells w0.heap.size 0 k.cells.toList) va n k y s0 s1 v0 v1 :=
  ⟨below_setCells' (Nat.le_refl _) _ _ _ _ h.below, (heap_setCells_same _ _ _ _ _ _ h.rp).trans (by rw [put_pair0]), (heap_setCells_far _ _ _ _ _ (by omega)).trans h.ro, h.all.kept (fun b hb _ => heap_setCells_far _ _ _ _ _ (by omega)), h.l0.kept (fun b hb _ => heap_setCells_far _ _ _ _ _ (by omega)), h.l1.kept (fun b hb _ => heap_setCells_far _ _ _ _ _ (by omega)), h.ap⟩
theorem St.link1 (h : St w0 w va n x y s0 s1 v0 v1) (k : Lk) : St w0 (w.setCells w0.heap.size 17 k.cells.toList) va n x k s0 s1 v0 v1 :=
  ⟨below_setCells' (Nat.le_refl _) _ _ _ _ h.below, (heap_setCells_same _ _ _ _ _ _ h.rp).trans (by rw [put_pair1]), (heap_setCells_far _ _ _ _ _ (by omega)).trans h.ro, h.all.kept (fun b hb _ => heap_setCells_far _ _ _ _ _ (by omega)), h.l0.kept (fun b hb _ => heap_setCells_far _ _ _ _ _ (by omega)), h.l1.kept (fun b hb _ => heap_setCells_far _ _ _ _ _ (by omega)), h.ap⟩
theorem AllAt.cell (h : AllAt w (w0.heap.size + 1) va n) (hr : w.heap[w0.heap.size + 1 + 1]? = some (.cells #[v0, v1] 40)) (o : Nat) (u : Value) : AllAt (w.setCell ⟨w0.heap.size + 1 + 1, o, none⟩ u) (w0.heap.size + 1) va n := by
  refine h.grown (grownBy_setCell _ _ _) fun g hg e => ?_
  cases e
  obtain ⟨⟨cur, hc⟩, _⟩ := h.block _ hg
  exact ty_ne hr hc (by decide) rfl
theorem sent_core (h : OutAt w (w0.heap.size + 3) v0 s0) {w5 : World} {v5 : Value} {ms2 : List (List Int)} {xs news : List Value} (hx : xs.length = s0.length) (hxm : ∀ (i : Nat) (m : List Int), s0[i]? = some m → ∃ x, xs[i]? = some x ∧ MsgAt w (w0.heap.size + 3) x m)
    (hn : ∀ (i : Nat) (m : List Int), ms2[i]? = some m → ∃ x, news[i]? = some x ∧ MsgAt w (w0.heap.size + 3) x m) (ho : w5.ownsRow (w0.heap.size + 3) 45 1 v5 (s0.length + ms2.length) (xs ++ news)) (hg : w.grownBy w5 v0.ownBlock) : OutAt w5 (w0.heap.size + 3) v5 (s0 ++ ms2) := by
  have keep : ∀ x m, MsgAt w (w0.heap.size + 3) x m → MsgAt w5 (w0.heap.size + 3) x m := fun x m hm => by
    obtain ⟨b, rfl, hb, hh⟩ := hm
    refine ⟨b, rfl, hb, (hg.block b (row_lt hh) (fun e => ?_)).trans hh⟩
    obtain ⟨⟨cur, hc⟩, _⟩ := h.block b e.symm
    exact ty_ne hh hc (by decide) rfl
  exact outAt_more (w := w) hx (fun i m hi => let ⟨x, a, b⟩ := hxm i m hi; ⟨x, a, keep _ _ b⟩) (fun i m hi => let ⟨x, a, b⟩ := hn i m hi; ⟨x, a, keep _ _ b⟩) ho
theorem St.sent0 (h : St w0 w va n x y s0 s1 v0 v1) {w5 : World} {v5 : Value} {ms2 : List (List Int)} {xs news : List Value} (hx : xs.length = s0.length) (hxm : ∀ (i : Nat) (m : List Int), s0[i]? = some m → ∃ x, xs[i]? = some x ∧ MsgAt w (w0.heap.size + 3) x m)
    (hn : ∀ (i : Nat) (m : List Int), ms2[i]? = some m → ∃ x, news[i]? = some x ∧ MsgAt w (w0.heap.size + 3) x m) (ho : w5.ownsRow (w0.heap.size + 3) 45 1 v5 (s0.length + ms2.length) (xs ++ news)) (hg : w.grownBy w5 v0.ownBlock) (ha : v5.ownBlock = v0.ownBlock ∨ v5.ownBlock = some w.heap.size) :
    St w0 (w5.setCell ⟨w0.heap.size + 1 + 1, 0, none⟩ v5) va n x y (s0 ++ ms2) s1 v5 v1 := by
  have hbl : ∀ k, v0.ownBlock = some k → w0.heap.size + 3 ≤ k := fun k e => (h.l0.block k e).2.1
  have hsz : w0.heap.size + 1 + 1 < w.heap.size := row_lt h.ro
  have r5 : w5.heap[w0.heap.size + 1 + 1]? = some (.cells #[v0, v1] 40) := (hg.block _ hsz (fun e => by have := hbl _ e.symm; omega)).trans h.ro
  have a5 : AllAt w5 (w0.heap.size + 1) va n := h.all.grown hg fun g e e' => by
    obtain ⟨⟨c, hc⟩, _⟩ := h.all.block g e
    obtain ⟨⟨c', hc'⟩, _⟩ := h.l0.block g e'
    exact ty_ne hc hc' (by decide) rfl
  have b5 : OutAt w5 (w0.heap.size + 3) v1 s1 := h.l1.grown hg (fun g e => by obtain ⟨⟨c, hc⟩, _⟩ := h.l0.block g e; exact ⟨c, _, hc, by decide⟩) fun g e e' => h.ap g e' e
  refine ⟨(h.below.trans (grownBy_below hg h.below.size (fun k e => by have := hbl k e; omega))).setCell (p := ⟨w0.heap.size + 1 + 1, 0, none⟩) (by simp only []; omega) _, ?_, heap_setCell_same _ _ 0 _ _ _ r5, a5.cell r5 _ _, ?_, ?_, fun g e e' => ?_⟩
  · exact row_set (by simp only []; omega) ((hg.block _ (by omega) (fun e => by have := hbl _ e.symm; omega)).trans h.rp)
  · exact (sent_core h.l0 hx hxm hn ho hg).kept fun b hb _ => heap_setCell_other _ _ _ _ (by simp only []; omega)
  · exact b5.kept fun b hb _ => heap_setCell_other _ _ _ _ (by simp only []; omega)
  · have hl := (h.l1.block g e').2.2
    rcases ha with ha | ha
    · exact h.ap g (ha.symm.trans e) e'
    · rw [ha] at e
      cases e
      omega
theorem St.swap_ap (h : St w0 w va n x y s0 s1 v0 v1) : ∀ g, v1.ownBlock = some g → v0.ownBlock = some g → False := fun g a b => h.ap g b a
theorem St.sent1 (h : St w0 w va n x y s0 s1 v0 v1) {w5 : World} {v5 : Value} {ms2 : List (List Int)} {xs news : List Value} (hx : xs.length = s1.length) (hxm : ∀ (i : Nat) (m : List Int), s1[i]? = some m → ∃ x, xs[i]? = some x ∧ MsgAt w (w0.heap.size + 3) x m)
    (hn : ∀ (i : Nat) (m : List Int), ms2[i]? = some m → ∃ x, news[i]? = some x ∧ MsgAt w (w0.heap.size + 3) x m) (ho : w5.ownsRow (w0.heap.size + 3) 45 1 v5 (s1.length + ms2.length) (xs ++ news)) (hg : w.grownBy w5 v1.ownBlock) (ha : v5.ownBlock = v1.ownBlock ∨ v5.ownBlock = some w.heap.size) :
    St w0 (w5.setCell ⟨w0.heap.size + 1 + 1, 1, none⟩ v5) va n x y s0 (s1 ++ ms2) v0 v5 := by
  have hbl : ∀ k, v1.ownBlock = some k → w0.heap.size + 3 ≤ k := fun k e => (h.l1.block k e).2.1
  have hsz : w0.heap.size + 1 + 1 < w.heap.size := row_lt h.ro
  have r5 : w5.heap[w0.heap.size + 1 + 1]? = some (.cells #[v0, v1] 40) := (hg.block _ hsz (fun e => by have := hbl _ e.symm; omega)).trans h.ro
  have a5 : AllAt w5 (w0.heap.size + 1) va n := h.all.grown hg fun g e e' => by
    obtain ⟨⟨c, hc⟩, _⟩ := h.all.block g e
    obtain ⟨⟨c', hc'⟩, _⟩ := h.l1.block g e'
    exact ty_ne hc hc' (by decide) rfl
  have b5 : OutAt w5 (w0.heap.size + 3) v0 s0 := h.l0.grown hg (fun g e => by obtain ⟨⟨c, hc⟩, _⟩ := h.l1.block g e; exact ⟨c, _, hc, by decide⟩) fun g e e' => h.ap g e e'
  refine ⟨(h.below.trans (grownBy_below hg h.below.size (fun k e => by have := hbl k e; omega))).setCell (p := ⟨w0.heap.size + 1 + 1, 1, none⟩) (by simp only []; omega) _, ?_, heap_setCell_same _ _ 1 _ _ _ r5, a5.cell r5 _ _, ?_, ?_, fun g e e' => ?_⟩
  · exact row_set (by simp only []; omega) ((hg.block _ (by omega) (fun e => by have := hbl _ e.symm; omega)).trans h.rp)
  · exact b5.kept fun b hb _ => heap_setCell_other _ _ _ _ (by simp only []; omega)
  · exact (sent_core h.l1 hx hxm hn ho hg).kept fun b hb _ => heap_setCell_other _ _ _ _ (by simp only []; omega)
  · have hl := (h.l0.block g e).2.2
    rcases ha with ha | ha
    · exact h.ap g e (ha.symm.trans e')
    · rw [ha] at e'
      cases e'
      omega
/-- One more pair in the list of all. -/
theorem St.more (h : St w0 w va n x y s0 s1 v0 v1) (hg : GoodP x y) {w7 : World} {v7 : Value} {xs : List Value} {ob : Obj} (hx : ∀ i, i < n → ∃ x y, GoodP x y ∧ ∀ j, j < 34 → xs[i * 34 + j]? = (pairCells x y)[j]?) (ho : w.ownsRow (w0.heap.size + 1) 28 34 va n xs)
    (ho7 : w7.ownsRow (w0.heap.size + 1) 28 34 v7 (n + 1) (xs ++ (pairCells x y).toList)) (hg7 : (w.alloc ob).grownBy w7 va.ownBlock) : St w0 w7 v7 (n + 1) x y s0 s1 v0 v1 := by
  have h' := h.step ((Below.refl w.heap.size w).alloc (Nat.le_refl _) ob)
  have hbl : ∀ k, va.ownBlock = some k → w0.heap.size + 1 ≤ k := fun k e => (h'.all.block k e).2.1
  refine ⟨h'.below.trans (grownBy_below hg7 h'.below.size (fun k e => by have := hbl k e; omega)), ?_, ?_, allAt_more ho hx ho7 hg, ?_, ?_, h.ap⟩
  · exact (hg7.block _ (row_lt h'.rp) (fun e => by have := hbl _ e.symm; omega)).trans h'.rp
  · refine (hg7.block _ (row_lt h'.ro) (fun e => ?_)).trans h'.ro
    obtain ⟨⟨c, hc⟩, _⟩ := h'.all.block _ e.symm
    exact ty_ne h'.ro hc (by decide) rfl
  · refine h'.l0.grown hg7 (fun g e => by obtain ⟨⟨c, hc⟩, _⟩ := h'.all.block g e; exact ⟨c, _, hc, by decide⟩) fun g e e' => ?_
    obtain ⟨⟨c, hc⟩, _⟩ := h'.all.block g e'
    obtain ⟨⟨c', hc'⟩, _⟩ := h'.l0.block g e
    exact ty_ne hc hc' (by decide) rfl
  · refine h'.l1.grown hg7 (fun g e => by obtain ⟨⟨c, hc⟩, _⟩ := h'.all.block g e; exact ⟨c, _, hc, by decide⟩) fun g e e' => ?_
    obtain ⟨⟨c, hc⟩, _⟩ := h'.all.block g e'
    obtain ⟨⟨c', hc'⟩, _⟩ := h'.l1.block g e
    exact ty_ne hc hc' (by decide) rfl
end
theorem st_start (w : World) (x y : Lk) (hg : GoodP x y) : St w (((w.alloc (.cells (pairCells x y) 28)).alloc (.cells (pairCells x y) 28)).alloc (.cells #[.slice none 0 0, .slice none 0 0] 40)) (.slice (some ⟨w.heap.size + 1, 0, none⟩) 1 1) 1 x y [] [] (.slice none 0 0) (.slice none 0 0) := by
  obtain ⟨r0, r1, r2⟩ := fr_rows3 w (.cells (pairCells x y) 28) (.cells (pairCells x y) 28) (.cells #[.slice none 0 0, .slice none 0 0] 40)
  refine ⟨below_more (below_more (below_more (Below.refl _ _) _) _) _, r0, r2, ⟨(pairCells x y).toList, ⟨rfl, .inr ⟨w.heap.size + 1, 1, pairCells x y, rfl, Nat.le_refl _, r1, Nat.le_refl _, by unfold maxLen; decide, rfl, rfl⟩⟩, fun i hi => ⟨x, y, hg, fun j hj => ?_⟩⟩, outAt_nil _ _, outAt_nil _ _, fun g e => by cases e⟩
  obtain rfl : i = 0 := by omega
  simp
theorem out_form {w : World} {base : Nat} {v : Value} {ms : List (List Int)} (h : OutAt w base v ms) : ∃ ao c, v = .slice ao ms.length c := by
  obtain ⟨xs, ho, _⟩ := h
  rcases ho.2 with ⟨rfl, h0⟩ | ⟨g, cap, cur, rfl, _⟩
  · exact ⟨none, 0, by rw [h0]⟩
  · exact ⟨_, cap, rfl⟩
theorem out_cell {w : World} {base n c : Nat} {ao : Option Addr} {ms : List (List Int)} (h : OutAt w base (.slice ao n c) ms) {q : Nat} (hq : q < ms.length) : ∃ g mv m, ao = some ⟨g, 0, none⟩ ∧ n ≤ c ∧ w.cell? ⟨g, q, none⟩ = some mv ∧ MsgAt w base mv m ∧ m ∈ ms := by
  obtain ⟨xs, ho, hx⟩ := h
  rcases ho.2 with ⟨e, h0⟩ | ⟨g, cap, cur, e, _, hg, hn, _, _, htake⟩
  · omega
  · cases e
    obtain ⟨x, hxi, hm⟩ := hx q ms[q] (List.getElem?_eq_getElem hq)
    refine ⟨g, x, ms[q], rfl, hn, ?_, hm, List.getElem_mem hq⟩
    rw [cell_of_row _ _ _ _ _ _ hg]
    rw [← htake, List.getElem?_take] at hxi
    split at hxi
    · simpa using hxi
    · cases hxi
theorem u32 : Try.prog.underlying 32 = some (.slice 28) := Try.underlying32
theorem pair_list (x y : Lk) : (pairCells x y).toList.length = 1 * 34 := rfl
theorem pair_ones (x y : Lk) : ∀ u ∈ (pairCells x y).toList, u.oneCell' = true := fun u hu => (Array.all_eq_true_iff_forall_mem.1 (pair_one x y)) u (by simpa using hu)
theorem zp_cells : (Value.agg zp).cells.size = 34 := rfl
theorem wpList_append_all {ops : Array Oper} {rest : List Oper} {o : Oper} {a : Act} {w : World} {Q : Exit → Act → World → Prop} (hgd : o.guard = none) (d : Option Tmp) (hd : o.dst = d) (s z : Operand)
    (ho : o.op = .call { callee := .builtin .append, args := #[s, z], argTypes := #[32, 32] })
    (base : Nat) (v : Value) (n : Nat) (xs : List Value) (hs : a.eval s = v) (hown : w.ownsRow base 28 34 v n xs) (B : Nat) (hz : a.eval z = .slice (some ⟨B, 0, none⟩) 1 1) (x y : Lk) (hB : w.heap[B]? = some (.cells (pairCells x y) 28)) (hn : n ≤ 1000) (hbase : base ≤ w.heap.size)
    (h : ∀ v' w', w'.ownsRow base 28 34 v' (n + 1) (xs ++ (pairCells x y).toList) → w.grownBy w' v.ownBlock → wpList Try.prog ops Q rest (a.put d v') w') : wpList Try.prog ops Q (o :: rest) a w := by
  subst hd
  have h63 : n + 1 ≤ maxLen := by unfold maxLen; omega
  have hby : (n + 1) * 96 ≤ 140737488355328 := by omega
  exact wpList_append_own_at w hgd s z 32 ho base 28 i28 (.agg zp) 34 96 u32 i28_is i28_zero i28_size i28_bytes zp_cells (by decide) v n xs hs hown ⟨B, 0, none⟩ 1 1 (pairCells x y).toList hz (pair_list x y) (World.news_of_block hB) (pair_ones x y) h63 hby hbase fun v' w' h1 h2 _ _ => h v' w' h1 h2
end Go.Proofs.Ytmighkgjbohieaa
