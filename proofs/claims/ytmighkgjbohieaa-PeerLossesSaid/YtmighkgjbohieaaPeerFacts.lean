/-
  Plain facts on pStart, pClose, pTick, pHandle: the messages are five bytes long, at most two; the addresses stay.
-/
import Derived.Test.YtmighkgjbohieaaPeerEnds
set_option linter.unusedVariables false
set_option linter.unusedSimpArgs false
namespace Go.Proofs.Ytmighkgjbohieaa
open Go.ChangeShapes Go.WideShapes Go.ChangeAt Go.RowKit Go.Great

/-- What a result is: a link whose bytes are bytes; at most two messages, each of five bytes. -/
def Res.Fine (r : Res) : Prop := r.1.By ∧ (∀ m ∈ r.2.1, MsgOk m) ∧ r.2.1.length ≤ 2
theorem zero_by : zeroLk.By := ⟨by decide, by decide, by decide, by decide, by decide, by decide, by decide, by decide, by decide, by decide, by decide, by decide⟩
theorem fine_err (e : Int) : Res.Fine (errR e) := ⟨zero_by, (fun m hm => by cases hm), by show 0 ≤ 2; decide⟩
theorem fine_guard {k : Lk} {now : Int} {r : Res} (h : Res.Fine r) : Res.Fine (guardR k now r) := by
  simp only [guardR]
  split
  · split
    · exact h
    · exact fine_err _
  · exact fine_err _
theorem by_of {k k' : Lk} (h : k.By) (e : k'.o0 = k.o0 ∧ k'.o1 = k.o1 ∧ k'.o2 = k.o2 ∧ k'.o3 = k.o3 ∧ k'.o4 = k.o4 ∧ k'.o5 = k.o5 ∧ k'.p0 = k.p0 ∧ k'.p1 = k.p1 ∧ k'.p2 = k.p2 ∧ k'.p3 = k.p3 ∧ k'.p4 = k.p4 ∧ k'.p5 = k.p5) : k'.By := by
  obtain ⟨e0, e1, e2, e3, e4, e5, f0, f1, f2, f3, f4, f5⟩ := e
  exact ⟨e0 ▸ h.o0, e1 ▸ h.o1, e2 ▸ h.o2, e3 ▸ h.o3, e4 ▸ h.o4, e5 ▸ h.o5, f0 ▸ h.p0, f1 ▸ h.p1, f2 ▸ h.p2, f3 ▸ h.p3, f4 ▸ h.p4, f5 ▸ h.p5⟩
theorem fine0 {k' : Lk} {e : Int} (h : k'.By) : Res.Fine (k', [], e) := ⟨h, (fun m hm => by cases hm), by show 0 ≤ 2; decide⟩
theorem fine1 {k' : Lk} {e x a b : Int} (h : k'.By) (hx : 0 ≤ x ∧ x ≤ 255) : Res.Fine (k', [msgOf x a b], e) := ⟨h, fun m hm => by
  rw [List.mem_singleton.1 hm]; exact msgOf_ok x a b hx, by show 1 ≤ 2; decide⟩
theorem fine2 {k' : Lk} {e x a b y c d : Int} (h : k'.By) (hx : 0 ≤ x ∧ x ≤ 255) (hy : 0 ≤ y ∧ y ≤ 255) : Res.Fine (k', [msgOf x a b, msgOf y c d], e) := ⟨h, fun m hm => by
  rcases List.mem_cons.1 hm with rfl | hm
  · exact msgOf_ok x a b hx
  · rw [List.mem_singleton.1 hm]; exact msgOf_ok y c d hy, by show 2 ≤ 2; decide⟩
theorem fine_start {k : Lk} (h : k.By) (now : Int) : Res.Fine (pStart k now) := by
  refine fine_guard ?_
  split
  · exact fine1 (by_of h ⟨rfl, rfl, rfl, rfl, rfl, rfl, rfl, rfl, rfl, rfl, rfl, rfl⟩) (by decide)
  · exact fine_err _
theorem fine_close {k : Lk} (h : k.By) (now : Int) : Res.Fine (pClose k now) := by
  refine fine_guard ?_
  split
  · exact fine_err _
  · exact fine1 (by_of h ⟨rfl, rfl, rfl, rfl, rfl, rfl, rfl, rfl, rfl, rfl, rfl, rfl⟩) (by decide)
theorem fine_tick {k : Lk} (h : k.By) (now : Int) : Res.Fine (pTick k now) := by
  refine fine_guard ?_
  split
  · exact fine0 h
  split
  · exact fine0 (by_of h ⟨rfl, rfl, rfl, rfl, rfl, rfl, rfl, rfl, rfl, rfl, rfl, rfl⟩)
  split
  · exact fine1 (by_of h ⟨rfl, rfl, rfl, rfl, rfl, rfl, rfl, rfl, rfl, rfl, rfl, rfl⟩) (by decide)
  split
  · exact fine0 (by_of h ⟨rfl, rfl, rfl, rfl, rfl, rfl, rfl, rfl, rfl, rfl, rfl, rfl⟩)
  · exact fine1 (by_of h ⟨rfl, rfl, rfl, rfl, rfl, rfl, rfl, rfl, rfl, rfl, rfl, rfl⟩) (by decide)
theorem fine_opened {k : Lk} (h : k.By) (a now : Int) : Res.Fine (pOpened k a now) := by
  have h' : ∀ k' : Lk, (k'.o0 = k.o0 ∧ k'.o1 = k.o1 ∧ k'.o2 = k.o2 ∧ k'.o3 = k.o3 ∧ k'.o4 = k.o4 ∧ k'.o5 = k.o5 ∧ k'.p0 = k.p0 ∧ k'.p1 = k.p1 ∧ k'.p2 = k.p2 ∧ k'.p3 = k.p3 ∧ k'.p4 = k.p4 ∧ k'.p5 = k.p5) → k'.By := fun k' e => by_of h e
  simp only [pOpened]
  split
  · exact fine1 h (by decide)
  split
  · exact fine1 (h' _ ⟨rfl, rfl, rfl, rfl, rfl, rfl, rfl, rfl, rfl, rfl, rfl, rfl⟩) (by decide)
  split
  · exact fine2 (h' _ ⟨rfl, rfl, rfl, rfl, rfl, rfl, rfl, rfl, rfl, rfl, rfl, rfl⟩) (by decide) (by decide)
  split
  · exact fine1 (h' _ ⟨rfl, rfl, rfl, rfl, rfl, rfl, rfl, rfl, rfl, rfl, rfl, rfl⟩) (by decide)
  split
  · exact fine1 (h' _ ⟨rfl, rfl, rfl, rfl, rfl, rfl, rfl, rfl, rfl, rfl, rfl, rfl⟩) (by decide)
  · exact fine1 (h' _ ⟨rfl, rfl, rfl, rfl, rfl, rfl, rfl, rfl, rfl, rfl, rfl, rfl⟩) (by decide)
theorem fine_fit {r : Res} (h : Res.Fine r) : Res.Fine (fitR r) := by
  simp only [fitR]
  split
  · exact h
  · exact fine_err _
theorem fine_conf {k : Lk} (h : k.By) (a c now : Int) : Res.Fine (pConf k a c now) := by
  simp only [pConf]
  split
  · exact fine0 h
  split
  · exact fine1 h (by decide)
  split
  · exact fine0 h
  split
  · exact fine0 (by_of h ⟨rfl, rfl, rfl, rfl, rfl, rfl, rfl, rfl, rfl, rfl, rfl, rfl⟩)
  split
  · exact fine0 (by_of h ⟨rfl, rfl, rfl, rfl, rfl, rfl, rfl, rfl, rfl, rfl, rfl, rfl⟩)
  · exact fine0 h
theorem fine_closed {k : Lk} (h : k.By) (a c now : Int) : Res.Fine (pClosed k a c now) := by
  simp only [pClosed]
  split
  · exact fine0 h
  split
  · exact fine0 h
  split
  · exact fine0 (by_of h ⟨rfl, rfl, rfl, rfl, rfl, rfl, rfl, rfl, rfl, rfl, rfl, rfl⟩)
  · exact fine1 (by_of h ⟨rfl, rfl, rfl, rfl, rfl, rfl, rfl, rfl, rfl, rfl, rfl, rfl⟩) (by decide)
theorem fine_handle {k : Lk} (h : k.By) (m : List Int) (now : Int) : Res.Fine (pHandle k m now) := by
  refine fine_guard ?_
  split
  · exact fine_err _
  split
  · exact fine_err _
  split
  · exact fine_opened h _ _
  split
  · exact fine_fit (fine_conf h _ _ _)
  · exact fine_fit (fine_closed h _ _ _)
end Go.Proofs.Ytmighkgjbohieaa
