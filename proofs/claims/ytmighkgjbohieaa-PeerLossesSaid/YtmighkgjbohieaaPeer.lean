/-
  Links as rows of cells; messages and lists of messages in memory; the contract of peer's send.
-/
import Derived.Test.YtmighkgjbohieaaRows
import Derived.Test.YtmighkgjbohieaaRow
import Derived.Deep.RegionHeldLaw
import Derived.Deep.AppendLies
import Derived.Great.BuildSlice
import Derived.Great.Walk
set_option linter.unusedVariables false
set_option linter.unusedSimpArgs false
namespace Go.Proofs.Ytmighkgjbohieaa
open Go.ChangeShapes Go.WideShapes Go.ChangeAt Go.RowKit Go.Great

/-- A link: its two addresses, its stage, identifiers, tries, due time. -/
structure Lk where
  (o0 o1 o2 o3 o4 o5 p0 p1 p2 p3 p4 p5 st id ot tr du : Int)
def Lk.cells (k : Lk) : Array Value := #[.int .u8 k.o0, .int .u8 k.o1, .int .u8 k.o2, .int .u8 k.o3, .int .u8 k.o4, .int .u8 k.o5, .int .u8 k.p0, .int .u8 k.p1, .int .u8 k.p2, .int .u8 k.p3, .int .u8 k.p4, .int .u8 k.p5, .int .u8 k.st, .int .i64 k.id, .int .i64 k.ot, .int .i64 k.tr, .int .i64 k.du]
def endCells (k : Lk) (now : Int) (v : Value) : Array Value := #[.int .u8 k.o0, .int .u8 k.o1, .int .u8 k.o2, .int .u8 k.o3, .int .u8 k.o4, .int .u8 k.o5, .int .u8 k.p0, .int .u8 k.p1, .int .u8 k.p2, .int .u8 k.p3, .int .u8 k.p4, .int .u8 k.p5, .int .u8 k.st, .int .i64 k.id, .int .i64 k.ot, .int .i64 k.tr, .int .i64 k.du, .int .i64 now, v]

/-- A message's bytes as cells. -/
def msgCells (m : List Int) : Array Value := (m.map fun z => Value.int .u8 z).toArray
/-- x is a slice of a message that lies whole in a block from 'base' on. -/
def MsgAt (w : World) (base : Nat) (x : Value) (m : List Int) : Prop := ∃ b, x = .slice (some ⟨b, 0, none⟩) m.length m.length ∧ base ≤ b ∧ w.heap[b]? = some (.cells (msgCells m) 5)
/-- v is a list of messages. -/
def OutAt (w : World) (base : Nat) (v : Value) (ms : List (List Int)) : Prop := ∃ xs, w.ownsRow base 45 1 v ms.length xs ∧ ∀ (i : Nat) (m : List Int), ms[i]? = some m → ∃ x, xs[i]? = some x ∧ MsgAt w base x m
/-- The block b is an end with these messages to send. -/
def EndAt (w : World) (b : Nat) (k : Lk) (now : Int) (ms : List (List Int)) : Prop := ∃ v, w.heap[b]? = some (.cells (endCells k now v) 72) ∧ OutAt w (b + 1) v ms
def msgOf (k a b : Int) : List Int := [k, a % 256, a / 256 % 256, b % 256, b / 256 % 256]

theorem MsgAt.keep {w w' : World} {base : Nat} {x : Value} {m : List Int} (h : MsgAt w base x m) (hk : ∀ b, base ≤ b → b < w.heap.size → (∀ cur fr, w.heap[b]? ≠ some (.cells cur 45 fr)) → w'.heap[b]? = w.heap[b]?) : MsgAt w' base x m := by
  obtain ⟨b, rfl, hb, hh⟩ := h
  exact ⟨b, rfl, hb, (hk b hb (row_lt hh) (fun cur fr h2 => by rw [hh] at h2; exact absurd h2 (by simp))).trans hh⟩
theorem OutAt.below {w w' : World} {base : Nat} {v : Value} {ms : List (List Int)} (h : OutAt w base v ms) (hb : Below w.heap.size w w') : OutAt w' base v ms := by
  obtain ⟨xs, ho, hm⟩ := h
  refine ⟨xs, ⟨ho.1, ?_⟩, fun i m hi => ?_⟩
  · rcases ho.2 with h0 | ⟨g, cap, cur, h1, h2, h3, h4⟩
    · exact .inl h0
    · exact .inr ⟨g, cap, cur, h1, h2, row_below hb h3, h4⟩
  · obtain ⟨x, hx, hmm⟩ := hm i m hi
    exact ⟨x, hx, hmm.keep fun b _ hlt _ => hb.block b hlt⟩
theorem EndAt.row {w : World} {b : Nat} {k : Lk} {now : Int} {ms : List (List Int)} (h : EndAt w b k now ms) : ∃ v, w.heap[b]? = some (.cells (endCells k now v) 72) ∧ OutAt w (b + 1) v ms := h
theorem outAt_nil (w : World) (base : Nat) : OutAt w base (.slice none 0 0) [] := ⟨[], World.ownsRow_nil w base _ 1, fun i m h => by simp at h⟩

noncomputable def i45 : TypeInfo := (Try.prog.info? 45).getD default
theorem i45_is : Try.prog.info? 45 = some i45 := by kernel_rfl
theorem i45_zero : i45.zero = some (.slice none 0 0) := by kernel_rfl
theorem i45_size : i45.size = 1 := by kernel_rfl
theorem i45_bytes : i45.bytes = 24 := by kernel_rfl

theorem drew_heap (w : World) : w.drew.heap = w.heap := rfl
/-- What send leaves: the end's row with the longer list, all below the end as it was. -/
def Sent (b : Nat) (k : Lk) (now : Int) (n : Nat) (xs : List Value) (m : Array Value) (w w' : World) : Prop :=
  ∃ v' bm, w'.heap[b]? = some (.cells (endCells k now v') 72) ∧ w'.ownsRow (b + 1) 45 1 v' (n + 1) (xs ++ [.slice (some ⟨bm, 0, none⟩) 5 5]) ∧ b + 1 ≤ bm ∧ w'.heap[bm]? = some (.cells m 5) ∧ Below b w w' ∧
    ∀ c, c < w.heap.size → c ≠ b → (∀ cur fr, w.heap[c]? ≠ some (.cells cur 45 fr)) → w'.heap[c]? = w.heap[c]?

theorem sent_ne {b g H : Nat} {v : Value} (hv : ∀ c, v.ownBlock = some c → b + 1 ≤ c ∧ c < H) {h2 : Nat} (hat : v.ownBlock = some g ∨ g = h2) (hb : b < H) (h3 : H ≤ h2 := by simp only [World.size_alloc, drew_heap]; omega) : g ≠ b := by
  rcases hat with h | h
  · have := (hv g h).1; omega
  · omega
theorem sent_own {b g : Nat} {w1 : World} {base : Nat} {e : TypeId} {n cap : Nat} {xs : List Value} {u : Value} (h : w1.ownsRow base e 1 (.slice (some ⟨g, 0, none⟩) n cap) n xs) (hne : g ≠ b) : (w1.setCell ⟨b, 18, none⟩ u).ownsRow base e 1 (.slice (some ⟨g, 0, none⟩) n cap) n xs := by
  refine ⟨h.1, ?_⟩
  rcases h.2 with ⟨h0, _⟩ | ⟨g', cap', cur, h1, h2, h3, h4⟩
  · cases h0
  · cases h1
    exact .inr ⟨g, cap, cur, rfl, h2, (heap_setCell_other _ _ _ _ hne).trans h3, h4⟩
theorem sent_below {b : Nat} {w w1 : World} {A B : Obj} {r : Option Nat} {u : Value} (hg : (((w.alloc A).alloc B).drew).grownBy w1 r) (hb : b < w.heap.size) (hv : ∀ c, r = some c → b + 1 ≤ c ∧ c < w.heap.size) : Below b w (w1.setCell ⟨b, 18, none⟩ u) := by
  refine ⟨hg.os.trans rfl, hg.tape.trans rfl, hg.output.trans rfl, ?_, fun k hk => ?_⟩
  · have := hg.size
    simp only [World.size_alloc, drew_heap, World.size_setCell] at this ⊢
    omega
  · rw [heap_setCell_other _ _ _ _ (by show k ≠ b; omega)]
    rw [hg.block k (by simp only [World.size_alloc, drew_heap]; omega) (fun h => by have := (hv k h.symm).1; omega)]
    show ((w.alloc A).alloc B).heap[k]? = _
    rw [heap_alloc_old _ _ (by simp only [World.size_alloc]; omega), heap_alloc_old _ _ (by omega)]
theorem sent_rest {b : Nat} {w w1 : World} {A B : Obj} {v : Value} {n : Nat} {xs : List Value} {u : Value} (hg : (((w.alloc A).alloc B).drew).grownBy w1 v.ownBlock) (hv : ∀ c, v.ownBlock = some c → b + 1 ≤ c ∧ c < w.heap.size) (ho : w.ownsRow (b + 1) 45 1 v n xs) :
    ∀ c, c < w.heap.size → c ≠ b → (∀ cur fr, w.heap[c]? ≠ some (.cells cur 45 fr)) → (w1.setCell ⟨b, 18, none⟩ u).heap[c]? = w.heap[c]? := by
  intro c hc hne hn
  rw [heap_setCell_other _ _ _ _ hne]
  rw [hg.block c (by simp only [World.size_alloc, drew_heap]; omega) ?_]
  · show ((w.alloc A).alloc B).heap[c]? = _
    rw [heap_alloc_old _ _ (by simp only [World.size_alloc]; omega), heap_alloc_old _ _ hc]
  · intro h
    rcases ho.2 with ⟨rfl, _⟩ | ⟨g, cap, cur, rfl, _, h3, _⟩
    · cases h
    · cases h
      exact hn cur (0, 0) h3
set_option maxHeartbeats 2000000 in
theorem send_raw (b : Nat) (k : Lk) (now : Int) (v : Value) (n : Nat) (xs : List Value) (kind other : Int) (hn : n ≤ 3) (hid0 : 0 ≤ k.id) (hid1 : k.id ≤ 65535) (ho0 : 0 ≤ other) (ho1 : other ≤ 65535) (w : World)
    (hr : w.heap[b]? = some (.cells (endCells k now v) 72)) (hown : w.ownsRow (b + 1) 45 1 v n xs) :
    Calls Try.prog 37 #[.pointer (some ⟨b, 0, none⟩), .int .u8 kind, .int .i64 other] w fun e w' => e = .returned (.tuple #[]) ∧ Sent b k now n xs #[.int .u8 kind, .int .u8 (IntKind.u8.wrap k.id), .int .u8 (IntKind.u8.wrap (k.id / 256)), .int .u8 (IntKind.u8.wrap other), .int .u8 (IntKind.u8.wrap (other / 256))] w w' := by
  have HR := Lib.hid hr
  have HO := Lib.hid hown
  have hbl : b < w.heap.size := row_lt hr
  have hvb : ∀ c, v.ownBlock = some c → b + 1 ≤ c ∧ c < w.heap.size := hown.lt
  have hvb2 : some b ≠ v.ownBlock := fun h => by have := (hvb b h.symm).1; omega
  have c13 : w.cell? ⟨b, 13, none⟩ = some (.int .i64 k.id) := (cell_of_row _ _ _ _ _ _ hr).trans rfl
  have c18 : w.cell? ⟨b, 18, none⟩ = some v := (cell_of_row _ _ _ _ _ _ hr).trans rfl
  have hf : ∀ o, w.frozen? ⟨b, o, none⟩ = false := fun o => frozen_of_row _ _ _ _ _ hr
  have HV := Lib.hid hvb
  have HV2 := Lib.hid hvb2
  clear hr hown hvb hvb2
  go_enter Try.func37, Try.ntmps37
  go_wp2_with fail
  go_region_law
    (go_must (refine step_append_lies _ rfl (.tmp 10) (.tmp 31) 39 (by rfl) (b + 1) 45 i45 (.slice none 0 0) 1 24 Try.underlying39 i45_is i45_zero i45_size i45_bytes (by rfl) (by decide) v n xs (by rfl) (by exact (HO.out.alloc _).alloc _) ⟨w.heap.size + 1, 0, none⟩ 1 1 [.slice (some ⟨w.heap.size, 0, none⟩) 5 5] (by rfl) (by rfl) (by exact World.news_of_block (heap_alloc2_new _ _ _)) (by simp [Value.oneCell']) (by decide) (by unfold maxLen; omega) (by omega) (by simp only [World.size_alloc, drew_heap]; omega) _ (by rfl) ?_; intro g cap w1 hown1 hgrow hat hlt; have hgb := Lib.hid (show w1.heap[b]? = some (.cells (endCells k now v) 72) from (hgrow.block b (by simp only [World.size_alloc, drew_heap]; omega) HV2.out).trans (by exact row_alloc (row_alloc HR.out))); have x13 : w1.cell? ⟨b, 13, none⟩ = some (.int .i64 k.id) := (cell_of_row _ _ _ _ _ _ hgb.out).trans rfl; have x18 : w1.cell? ⟨b, 18, none⟩ = some v := (cell_of_row _ _ _ _ _ _ hgb.out).trans rfl; have xf : ∀ o, w1.frozen? ⟨b, o, none⟩ = false := fun o => frozen_of_row _ _ _ _ _ hgb.out; have xb : b < w1.heap.size := row_lt hgb.out))
  all_goals go_wp2
  all_goals go_end0
  all_goals
    refine ⟨rfl, _, w.heap.size, heap_setCell_same _ _ 18 _ _ _ hgb.out, ?_, by omega, ?_, ?_, ?_⟩
    · exact sent_own hown1 (sent_ne HV.out hat hbl)
    · exact (heap_setCell_other _ _ _ _ (by simp; omega)).trans ((hgrow.block _ (by simp only [World.size_alloc, drew_heap]; omega) (fun h => by have := (HV.out _ h.symm).2; omega)).trans (by exact row_alloc (heap_alloc_new w _)))
    · exact sent_below hgrow hbl HV.out
    · exact sent_rest hgrow HV.out HO.out
end Go.Proofs.Ytmighkgjbohieaa
