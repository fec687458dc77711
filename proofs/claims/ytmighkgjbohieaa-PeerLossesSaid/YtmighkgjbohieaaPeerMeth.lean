/-
  The contracts of the methods of peer's end that handle a message: opened, confirmed, closed.
-/
import Derived.Test.YtmighkgjbohieaaPeerBegun
set_option linter.unusedVariables false
set_option linter.unusedSimpArgs false
namespace Go.Proofs.Ytmighkgjbohieaa
open Go.ChangeShapes Go.WideShapes Go.ChangeAt Go.RowKit Go.Great

theorem EndAt.setOt {w : World} {b : Nat} {k : Lk} {now : Int} {ms : List (List Int)} (h : EndAt w b k now ms) (a : Int) : EndAt (w.setCell ⟨b, 14, none⟩ (.int .i64 a)) b { k with ot := a } now ms := by
  obtain ⟨v, hr, ho⟩ := h
  exact ⟨v, heap_setCell_same _ _ 14 _ _ _ hr, ho.setEnd _ _⟩
/-- The fields of a valid link. -/
structure Lk.In (k : Lk) : Prop where
  id0 : 1 ≤ k.id
  id1 : k.id ≤ 65535
  ot0 : 0 ≤ k.ot
  ot1 : k.ot ≤ 65535
def clK (k : Lk) (now : Int) : Lk := { k with st := 5, tr := 0, du := now + 40000 }
def waitK (k : Lk) (st now : Int) : Lk := { k with st := st, tr := 1, du := now + 40000 }
def upK (k : Lk) : Lk := { k with st := 4, tr := 0, du := 0 }
def finK (k : Lk) : Lk := { k with st := 0, ot := 0, du := 0, id := k.id % 65535 + 1 }

set_option maxHeartbeats 2000000 in
theorem opened_hold (b : Nat) (k : Lk) (now : Int) (hI : k.In) (hn0 : 0 ≤ now) (hn1 : now ≤ 1099511627776) (a : Int) (ha0 : 0 ≤ a) (ha1 : a ≤ 65535) (hs : k.st = 5) (w : World) (h : EndAt w b k now []) :
    Calls Try.prog 40 #[.pointer (some ⟨b, 0, none⟩), .int .i64 a] w fun e w' => e = .returned (.tuple #[]) ∧ EndAt w' b k now [msgOf 3 k.id k.ot] ∧ Below b w w' := by
  obtain ⟨hid0, hid1, hot0, hot1⟩ := hI
  have HE0 := Lib.hid h
  clear h
  obtain ⟨v0, hr0, ho0⟩ := HE0.out
  have c12w0 : w.cell? ⟨b, 12, none⟩ = some (.int .u8 k.st) := (cell_of_row _ _ _ _ _ _ hr0).trans rfl
  have c13w0 : w.cell? ⟨b, 13, none⟩ = some (.int .i64 k.id) := (cell_of_row _ _ _ _ _ _ hr0).trans rfl
  have c14w0 : w.cell? ⟨b, 14, none⟩ = some (.int .i64 k.ot) := (cell_of_row _ _ _ _ _ _ hr0).trans rfl
  have hfw0 : ∀ o, w.frozen? ⟨b, o, none⟩ = false := fun o => frozen_of_row _ _ _ _ _ hr0
  have hyw0 : b < w.heap.size := row_lt hr0
  clear hr0 ho0
  have HB0 := Lib.hid (Below.refl b w)
  go_enter Try.func40, Try.ntmps40
  go_wp2_with fail
  refine (send_end b k now [] 3 k.ot (by decide) (by omega) hid1 hot0 hot1 _ HE0.out).mono ?_
  rintro e w1 ⟨rfl, hE1, hb1⟩
  have HE1 := Lib.hid hE1
  have HB1 := Lib.hid (HB0.out.trans hb1)
  clear hE1 hb1
  clear c12w0 c13w0 c14w0 hfw0 hyw0 v0
  go_wp2
  first
    | go_end0
    | refine bodyPost_ret (v := .tuple #[]) (by simp [results, Try.results40, go_sem]) rfl ?_
  exact ⟨rfl, HE1.out, HB1.out⟩
set_option maxHeartbeats 2000000 in
theorem opened_diff (b : Nat) (k : Lk) (now : Int) (hI : k.In) (hn0 : 0 ≤ now) (hn1 : now ≤ 1099511627776) (a : Int) (ha0 : 0 ≤ a) (ha1 : a ≤ 65535) (hs : (k.st == 5) = false) (h1 : 1 ≤ k.ot) (h2 : (a == k.ot) = false) (w : World) (h : EndAt w b k now []) :
    Calls Try.prog 40 #[.pointer (some ⟨b, 0, none⟩), .int .i64 a] w fun e w' => e = .returned (.tuple #[]) ∧ EndAt w' b (clK k now) now [msgOf 3 k.id k.ot] ∧ Below b w w' := by
  obtain ⟨hid0, hid1, hot0, hot1⟩ := hI
  have HE0 := Lib.hid h
  clear h
  obtain ⟨v0, hr0, ho0⟩ := HE0.out
  have c12w0 : w.cell? ⟨b, 12, none⟩ = some (.int .u8 k.st) := (cell_of_row _ _ _ _ _ _ hr0).trans rfl
  have c13w0 : w.cell? ⟨b, 13, none⟩ = some (.int .i64 k.id) := (cell_of_row _ _ _ _ _ _ hr0).trans rfl
  have c14w0 : w.cell? ⟨b, 14, none⟩ = some (.int .i64 k.ot) := (cell_of_row _ _ _ _ _ _ hr0).trans rfl
  have hfw0 : ∀ o, w.frozen? ⟨b, o, none⟩ = false := fun o => frozen_of_row _ _ _ _ _ hr0
  have hyw0 : b < w.heap.size := row_lt hr0
  clear hr0 ho0
  have HB0 := Lib.hid (Below.refl b w)
  have nh2 : (a != k.ot) = true := by simp only [bne, h2]; rfl
  have z1 : (k.ot == 0) = false := by simp; omega
  have z2 : (k.ot != 0) = true := by simp only [bne, z1]; rfl
  go_enter Try.func40, Try.ntmps40
  go_wp2_with fail
  refine (close_end b k now [] (by decide) (by omega) hid1 hot0 hot1 hn0 hn1 _ HE0.out).mono ?_
  rintro e w1 ⟨rfl, hE1, hb1⟩
  have HE1 := Lib.hid hE1
  have HB1 := Lib.hid (HB0.out.trans hb1)
  clear hE1 hb1
  clear c12w0 c13w0 c14w0 hfw0 hyw0 v0
  go_wp2
  first
    | go_end0
    | refine bodyPost_ret (v := .tuple #[]) (by simp [results, Try.results40, go_sem]) rfl ?_
  exact ⟨rfl, HE1.out, HB1.out⟩
set_option maxHeartbeats 2000000 in
theorem opened_idle (b : Nat) (k : Lk) (now : Int) (hI : k.In) (hn0 : 0 ≤ now) (hn1 : now ≤ 1099511627776) (a : Int) (ha0 : 0 ≤ a) (ha1 : a ≤ 65535) (hs : k.st = 0) (h1 : k.ot < 1) (w : World) (h : EndAt w b k now []) :
    Calls Try.prog 40 #[.pointer (some ⟨b, 0, none⟩), .int .i64 a] w fun e w' => e = .returned (.tuple #[]) ∧ EndAt w' b (waitK { k with ot := a } 2 now) now [msgOf 1 k.id 0, msgOf 2 k.id a] ∧ Below b w w' := by
  obtain ⟨hid0, hid1, hot0, hot1⟩ := hI
  have HE0 := Lib.hid h
  clear h
  obtain ⟨v0, hr0, ho0⟩ := HE0.out
  have c12w0 : w.cell? ⟨b, 12, none⟩ = some (.int .u8 k.st) := (cell_of_row _ _ _ _ _ _ hr0).trans rfl
  have c13w0 : w.cell? ⟨b, 13, none⟩ = some (.int .i64 k.id) := (cell_of_row _ _ _ _ _ _ hr0).trans rfl
  have c14w0 : w.cell? ⟨b, 14, none⟩ = some (.int .i64 k.ot) := (cell_of_row _ _ _ _ _ _ hr0).trans rfl
  have hfw0 : ∀ o, w.frozen? ⟨b, o, none⟩ = false := fun o => frozen_of_row _ _ _ _ _ hr0
  have hyw0 : b < w.heap.size := row_lt hr0
  clear hr0 ho0
  have HB0 := Lib.hid (Below.refl b w)
  have z1 : (k.ot == 0) = true := by simp; omega
  have z2 : (k.ot != 0) = false := by simp only [bne, z1]; rfl
  go_enter Try.func40, Try.ntmps40
  go_wp2_with fail
  refine (send_end b k now [] 1 0 (by decide) (by omega) hid1 (by decide) (by decide) _ HE0.out).mono ?_
  rintro e w1 ⟨rfl, hE1, hb1⟩
  have HE1 := Lib.hid hE1
  have HB1 := Lib.hid (HB0.out.trans hb1)
  clear hE1 hb1
  clear c12w0 c13w0 c14w0 hfw0 hyw0 v0
  obtain ⟨v1, hr1, ho1⟩ := HE1.out
  have c12w1 : w1.cell? ⟨b, 12, none⟩ = some (.int .u8 k.st) := (cell_of_row _ _ _ _ _ _ hr1).trans rfl
  have c13w1 : w1.cell? ⟨b, 13, none⟩ = some (.int .i64 k.id) := (cell_of_row _ _ _ _ _ _ hr1).trans rfl
  have c14w1 : w1.cell? ⟨b, 14, none⟩ = some (.int .i64 k.ot) := (cell_of_row _ _ _ _ _ _ hr1).trans rfl
  have hfw1 : ∀ o, w1.frozen? ⟨b, o, none⟩ = false := fun o => frozen_of_row _ _ _ _ _ hr1
  have hyw1 : b < w1.heap.size := row_lt hr1
  clear hr1 ho1
  go_wp2_with fail
  refine (send_end b { k with ot := a } now [msgOf 1 k.id 0] 2 a (by simp) (by show 0 ≤ k.id; omega) hid1 ha0 ha1 _ (HE1.out.setOt a)).mono ?_
  rintro e w2 ⟨rfl, hE2, hb2⟩
  have HE2 := Lib.hid hE2
  have HB2 := Lib.hid ((HB1.out.setCell (p := ⟨b, 14, none⟩) (Nat.le_refl b) _).trans hb2)
  clear hE2 hb2
  clear c12w1 c13w1 c14w1 hfw1 hyw1 v1
  obtain ⟨v2, hr2, ho2⟩ := HE2.out
  have c12w2 : w2.cell? ⟨b, 12, none⟩ = some (.int .u8 k.st) := (cell_of_row _ _ _ _ _ _ hr2).trans rfl
  have c13w2 : w2.cell? ⟨b, 13, none⟩ = some (.int .i64 k.id) := (cell_of_row _ _ _ _ _ _ hr2).trans rfl
  have c14w2 : w2.cell? ⟨b, 14, none⟩ = some (.int .i64 a) := (cell_of_row _ _ _ _ _ _ hr2).trans rfl
  have hfw2 : ∀ o, w2.frozen? ⟨b, o, none⟩ = false := fun o => frozen_of_row _ _ _ _ _ hr2
  have hyw2 : b < w2.heap.size := row_lt hr2
  clear hr2 ho2
  go_wp2_with fail
  refine (wait_end b { k with ot := a } now [msgOf 1 k.id 0, msgOf 2 k.id a] 2 hn0 hn1 _ HE2.out).mono ?_
  rintro e w3 ⟨rfl, hE3, hb3⟩
  have HE3 := Lib.hid hE3
  have HB3 := Lib.hid (HB2.out.trans hb3)
  clear hE3 hb3
  clear c12w2 c13w2 c14w2 hfw2 hyw2 v2
  go_wp2
  first
    | go_end0
    | refine bodyPost_ret (v := .tuple #[]) (by simp [results, Try.results40, go_sem]) rfl ?_
  exact ⟨rfl, HE3.out, HB3.out⟩
set_option maxHeartbeats 2000000 in
theorem opened_sent (b : Nat) (k : Lk) (now : Int) (hI : k.In) (hn0 : 0 ≤ now) (hn1 : now ≤ 1099511627776) (a : Int) (ha0 : 0 ≤ a) (ha1 : a ≤ 65535) (hs : k.st = 1) (h1 : k.ot < 1) (w : World) (h : EndAt w b k now []) :
    Calls Try.prog 40 #[.pointer (some ⟨b, 0, none⟩), .int .i64 a] w fun e w' => e = .returned (.tuple #[]) ∧ EndAt w' b (waitK { k with ot := a } 2 now) now [msgOf 2 k.id a] ∧ Below b w w' := by
  obtain ⟨hid0, hid1, hot0, hot1⟩ := hI
  have HE0 := Lib.hid h
  clear h
  obtain ⟨v0, hr0, ho0⟩ := HE0.out
  have c12w0 : w.cell? ⟨b, 12, none⟩ = some (.int .u8 k.st) := (cell_of_row _ _ _ _ _ _ hr0).trans rfl
  have c13w0 : w.cell? ⟨b, 13, none⟩ = some (.int .i64 k.id) := (cell_of_row _ _ _ _ _ _ hr0).trans rfl
  have c14w0 : w.cell? ⟨b, 14, none⟩ = some (.int .i64 k.ot) := (cell_of_row _ _ _ _ _ _ hr0).trans rfl
  have hfw0 : ∀ o, w.frozen? ⟨b, o, none⟩ = false := fun o => frozen_of_row _ _ _ _ _ hr0
  have hyw0 : b < w.heap.size := row_lt hr0
  clear hr0 ho0
  have HB0 := Lib.hid (Below.refl b w)
  have z1 : (k.ot == 0) = true := by simp; omega
  have z2 : (k.ot != 0) = false := by simp only [bne, z1]; rfl
  go_enter Try.func40, Try.ntmps40
  go_wp2_with fail
  refine (send_end b { k with ot := a } now [] 2 a (by simp) (by show 0 ≤ k.id; omega) hid1 ha0 ha1 _ (HE0.out.setOt a)).mono ?_
  rintro e w1 ⟨rfl, hE1, hb1⟩
  have HE1 := Lib.hid hE1
  have HB1 := Lib.hid ((HB0.out.setCell (p := ⟨b, 14, none⟩) (Nat.le_refl b) _).trans hb1)
  clear hE1 hb1
  clear c12w0 c13w0 c14w0 hfw0 hyw0 v0
  obtain ⟨v1, hr1, ho1⟩ := HE1.out
  have c12w1 : w1.cell? ⟨b, 12, none⟩ = some (.int .u8 k.st) := (cell_of_row _ _ _ _ _ _ hr1).trans rfl
  have c13w1 : w1.cell? ⟨b, 13, none⟩ = some (.int .i64 k.id) := (cell_of_row _ _ _ _ _ _ hr1).trans rfl
  have c14w1 : w1.cell? ⟨b, 14, none⟩ = some (.int .i64 a) := (cell_of_row _ _ _ _ _ _ hr1).trans rfl
  have hfw1 : ∀ o, w1.frozen? ⟨b, o, none⟩ = false := fun o => frozen_of_row _ _ _ _ _ hr1
  have hyw1 : b < w1.heap.size := row_lt hr1
  clear hr1 ho1
  go_wp2_with fail
  refine (wait_end b { k with ot := a } now [msgOf 2 k.id a] 2 hn0 hn1 _ HE1.out).mono ?_
  rintro e w2 ⟨rfl, hE2, hb2⟩
  have HE2 := Lib.hid hE2
  have HB2 := Lib.hid (HB1.out.trans hb2)
  clear hE2 hb2
  clear c12w1 c13w1 c14w1 hfw1 hyw1 v1
  go_wp2
  first
    | go_end0
    | refine bodyPost_ret (v := .tuple #[]) (by simp [results, Try.results40, go_sem]) rfl ?_
  exact ⟨rfl, HE2.out, HB2.out⟩
set_option maxHeartbeats 2000000 in
theorem opened_got (b : Nat) (k : Lk) (now : Int) (hI : k.In) (hn0 : 0 ≤ now) (hn1 : now ≤ 1099511627776) (a : Int) (ha0 : 0 ≤ a) (ha1 : a ≤ 65535) (hs : k.st = 2 ∨ k.st = 4) (h1 : 1 ≤ k.ot) (h2 : (a == k.ot) = true) (w : World) (h : EndAt w b k now []) :
    Calls Try.prog 40 #[.pointer (some ⟨b, 0, none⟩), .int .i64 a] w fun e w' => e = .returned (.tuple #[]) ∧ EndAt w' b { k with ot := a } now [msgOf 2 k.id a] ∧ Below b w w' := by
  obtain ⟨hid0, hid1, hot0, hot1⟩ := hI
  have HE0 := Lib.hid h
  clear h
  obtain ⟨v0, hr0, ho0⟩ := HE0.out
  have c12w0 : w.cell? ⟨b, 12, none⟩ = some (.int .u8 k.st) := (cell_of_row _ _ _ _ _ _ hr0).trans rfl
  have c13w0 : w.cell? ⟨b, 13, none⟩ = some (.int .i64 k.id) := (cell_of_row _ _ _ _ _ _ hr0).trans rfl
  have c14w0 : w.cell? ⟨b, 14, none⟩ = some (.int .i64 k.ot) := (cell_of_row _ _ _ _ _ _ hr0).trans rfl
  have hfw0 : ∀ o, w.frozen? ⟨b, o, none⟩ = false := fun o => frozen_of_row _ _ _ _ _ hr0
  have hyw0 : b < w.heap.size := row_lt hr0
  clear hr0 ho0
  have HB0 := Lib.hid (Below.refl b w)
  have nh2 : (a != k.ot) = false := by simp only [bne, h2]; rfl
  have z1 : (k.ot == 0) = false := by simp; omega
  have z2 : (k.ot != 0) = true := by simp only [bne, z1]; rfl
  rcases hs with hs | hs
  all_goals
    go_enter Try.func40, Try.ntmps40
    go_wp2_with fail
    refine (send_end b { k with ot := a } now [] 2 a (by simp) (by show 0 ≤ k.id; omega) hid1 ha0 ha1 _ (HE0.out.setOt a)).mono ?_
    rintro e w1 ⟨rfl, hE1, hb1⟩
    have HE1 := Lib.hid hE1
    have HB1 := Lib.hid ((HB0.out.setCell (p := ⟨b, 14, none⟩) (Nat.le_refl b) _).trans hb1)
    clear hE1 hb1
    clear c12w0 c13w0 c14w0 hfw0 hyw0 v0
    obtain ⟨v1, hr1, ho1⟩ := HE1.out
    have c12w1 : w1.cell? ⟨b, 12, none⟩ = some (.int .u8 k.st) := (cell_of_row _ _ _ _ _ _ hr1).trans rfl
    have c13w1 : w1.cell? ⟨b, 13, none⟩ = some (.int .i64 k.id) := (cell_of_row _ _ _ _ _ _ hr1).trans rfl
    have c14w1 : w1.cell? ⟨b, 14, none⟩ = some (.int .i64 a) := (cell_of_row _ _ _ _ _ _ hr1).trans rfl
    have hfw1 : ∀ o, w1.frozen? ⟨b, o, none⟩ = false := fun o => frozen_of_row _ _ _ _ _ hr1
    have hyw1 : b < w1.heap.size := row_lt hr1
    clear hr1 ho1
    go_wp2
    first
      | go_end0
      | refine bodyPost_ret (v := .tuple #[]) (by simp [results, Try.results40, go_sem]) rfl ?_
    exact ⟨rfl, HE1.out, HB1.out⟩
set_option maxHeartbeats 2000000 in
theorem opened_conf (b : Nat) (k : Lk) (now : Int) (hI : k.In) (hn0 : 0 ≤ now) (hn1 : now ≤ 1099511627776) (a : Int) (ha0 : 0 ≤ a) (ha1 : a ≤ 65535) (hs : k.st = 3) (h1 : 1 ≤ k.ot) (h2 : (a == k.ot) = true) (w : World) (h : EndAt w b k now []) :
    Calls Try.prog 40 #[.pointer (some ⟨b, 0, none⟩), .int .i64 a] w fun e w' => e = .returned (.tuple #[]) ∧ EndAt w' b (upK { k with ot := a }) now [msgOf 2 k.id a] ∧ Below b w w' := by
  obtain ⟨hid0, hid1, hot0, hot1⟩ := hI
  have HE0 := Lib.hid h
  clear h
  obtain ⟨v0, hr0, ho0⟩ := HE0.out
  have c12w0 : w.cell? ⟨b, 12, none⟩ = some (.int .u8 k.st) := (cell_of_row _ _ _ _ _ _ hr0).trans rfl
  have c13w0 : w.cell? ⟨b, 13, none⟩ = some (.int .i64 k.id) := (cell_of_row _ _ _ _ _ _ hr0).trans rfl
  have c14w0 : w.cell? ⟨b, 14, none⟩ = some (.int .i64 k.ot) := (cell_of_row _ _ _ _ _ _ hr0).trans rfl
  have hfw0 : ∀ o, w.frozen? ⟨b, o, none⟩ = false := fun o => frozen_of_row _ _ _ _ _ hr0
  have hyw0 : b < w.heap.size := row_lt hr0
  clear hr0 ho0
  have HB0 := Lib.hid (Below.refl b w)
  have nh2 : (a != k.ot) = false := by simp only [bne, h2]; rfl
  have z1 : (k.ot == 0) = false := by simp; omega
  have z2 : (k.ot != 0) = true := by simp only [bne, z1]; rfl
  go_enter Try.func40, Try.ntmps40
  go_wp2_with fail
  refine (send_end b { k with ot := a } now [] 2 a (by simp) (by show 0 ≤ k.id; omega) hid1 ha0 ha1 _ (HE0.out.setOt a)).mono ?_
  rintro e w1 ⟨rfl, hE1, hb1⟩
  have HE1 := Lib.hid hE1
  have HB1 := Lib.hid ((HB0.out.setCell (p := ⟨b, 14, none⟩) (Nat.le_refl b) _).trans hb1)
  clear hE1 hb1
  clear c12w0 c13w0 c14w0 hfw0 hyw0 v0
  obtain ⟨v1, hr1, ho1⟩ := HE1.out
  have c12w1 : w1.cell? ⟨b, 12, none⟩ = some (.int .u8 k.st) := (cell_of_row _ _ _ _ _ _ hr1).trans rfl
  have c13w1 : w1.cell? ⟨b, 13, none⟩ = some (.int .i64 k.id) := (cell_of_row _ _ _ _ _ _ hr1).trans rfl
  have c14w1 : w1.cell? ⟨b, 14, none⟩ = some (.int .i64 a) := (cell_of_row _ _ _ _ _ _ hr1).trans rfl
  have hfw1 : ∀ o, w1.frozen? ⟨b, o, none⟩ = false := fun o => frozen_of_row _ _ _ _ _ hr1
  have hyw1 : b < w1.heap.size := row_lt hr1
  clear hr1 ho1
  go_wp2_with fail
  refine (up_end b { k with ot := a } now [msgOf 2 k.id a] _ HE1.out).mono ?_
  rintro e w2 ⟨rfl, hE2, hb2⟩
  have HE2 := Lib.hid hE2
  have HB2 := Lib.hid (HB1.out.trans hb2)
  clear hE2 hb2
  clear c12w1 c13w1 c14w1 hfw1 hyw1 v1
  go_wp2
  first
    | go_end0
    | refine bodyPost_ret (v := .tuple #[]) (by simp [results, Try.results40, go_sem]) rfl ?_
  exact ⟨rfl, HE2.out, HB2.out⟩
set_option maxHeartbeats 2000000 in
theorem conf_idle (b : Nat) (k : Lk) (now : Int) (hI : k.In) (hn0 : 0 ≤ now) (hn1 : now ≤ 1099511627776) (a c : Int) (ha0 : 0 ≤ a) (ha1 : a ≤ 65535) (hs : k.st = 0) (w : World) (h : EndAt w b k now []) :
    Calls Try.prog 41 #[.pointer (some ⟨b, 0, none⟩), .int .i64 a, .int .i64 c] w fun e w' => e = .returned (.int .i64 20) ∧ EndAt w' b k now [] ∧ Below b w w' := by
  obtain ⟨hid0, hid1, hot0, hot1⟩ := hI
  have HE0 := Lib.hid h
  clear h
  obtain ⟨v0, hr0, ho0⟩ := HE0.out
  have c12w0 : w.cell? ⟨b, 12, none⟩ = some (.int .u8 k.st) := (cell_of_row _ _ _ _ _ _ hr0).trans rfl
  have c13w0 : w.cell? ⟨b, 13, none⟩ = some (.int .i64 k.id) := (cell_of_row _ _ _ _ _ _ hr0).trans rfl
  have c14w0 : w.cell? ⟨b, 14, none⟩ = some (.int .i64 k.ot) := (cell_of_row _ _ _ _ _ _ hr0).trans rfl
  have hfw0 : ∀ o, w.frozen? ⟨b, o, none⟩ = false := fun o => frozen_of_row _ _ _ _ _ hr0
  have hyw0 : b < w.heap.size := row_lt hr0
  clear hr0 ho0
  have HB0 := Lib.hid (Below.refl b w)
  go_enter Try.func41, Try.ntmps41
  go_wp2
  go_ret
  exact ⟨rfl, HE0.out, HB0.out⟩
set_option maxHeartbeats 2000000 in
theorem conf_hold (b : Nat) (k : Lk) (now : Int) (hI : k.In) (hn0 : 0 ≤ now) (hn1 : now ≤ 1099511627776) (a c : Int) (ha0 : 0 ≤ a) (ha1 : a ≤ 65535) (hs : k.st = 5) (w : World) (h : EndAt w b k now []) :
    Calls Try.prog 41 #[.pointer (some ⟨b, 0, none⟩), .int .i64 a, .int .i64 c] w fun e w' => e = .returned (.int .i64 0) ∧ EndAt w' b k now [msgOf 3 k.id k.ot] ∧ Below b w w' := by
  obtain ⟨hid0, hid1, hot0, hot1⟩ := hI
  have HE0 := Lib.hid h
  clear h
  obtain ⟨v0, hr0, ho0⟩ := HE0.out
  have c12w0 : w.cell? ⟨b, 12, none⟩ = some (.int .u8 k.st) := (cell_of_row _ _ _ _ _ _ hr0).trans rfl
  have c13w0 : w.cell? ⟨b, 13, none⟩ = some (.int .i64 k.id) := (cell_of_row _ _ _ _ _ _ hr0).trans rfl
  have c14w0 : w.cell? ⟨b, 14, none⟩ = some (.int .i64 k.ot) := (cell_of_row _ _ _ _ _ _ hr0).trans rfl
  have hfw0 : ∀ o, w.frozen? ⟨b, o, none⟩ = false := fun o => frozen_of_row _ _ _ _ _ hr0
  have hyw0 : b < w.heap.size := row_lt hr0
  clear hr0 ho0
  have HB0 := Lib.hid (Below.refl b w)
  go_enter Try.func41, Try.ntmps41
  go_wp2_with fail
  refine (send_end b k now [] 3 k.ot (by decide) (by omega) hid1 hot0 hot1 _ HE0.out).mono ?_
  rintro e w1 ⟨rfl, hE1, hb1⟩
  have HE1 := Lib.hid hE1
  have HB1 := Lib.hid (HB0.out.trans hb1)
  clear hE1 hb1
  clear c12w0 c13w0 c14w0 hfw0 hyw0 v0
  go_wp2
  go_ret
  exact ⟨rfl, HE1.out, HB1.out⟩
set_option maxHeartbeats 2000000 in
theorem conf_stale1 (b : Nat) (k : Lk) (now : Int) (hI : k.In) (hn0 : 0 ≤ now) (hn1 : now ≤ 1099511627776) (a c : Int) (ha0 : 0 ≤ a) (ha1 : a ≤ 65535) (hs0 : (k.st == 0) = false) (hs : (k.st == 5) = false) (h1 : (c == k.id) = false) (w : World) (h : EndAt w b k now []) :
    Calls Try.prog 41 #[.pointer (some ⟨b, 0, none⟩), .int .i64 a, .int .i64 c] w fun e w' => e = .returned (.int .i64 21) ∧ EndAt w' b k now [] ∧ Below b w w' := by
  obtain ⟨hid0, hid1, hot0, hot1⟩ := hI
  have HE0 := Lib.hid h
  clear h
  obtain ⟨v0, hr0, ho0⟩ := HE0.out
  have c12w0 : w.cell? ⟨b, 12, none⟩ = some (.int .u8 k.st) := (cell_of_row _ _ _ _ _ _ hr0).trans rfl
  have c13w0 : w.cell? ⟨b, 13, none⟩ = some (.int .i64 k.id) := (cell_of_row _ _ _ _ _ _ hr0).trans rfl
  have c14w0 : w.cell? ⟨b, 14, none⟩ = some (.int .i64 k.ot) := (cell_of_row _ _ _ _ _ _ hr0).trans rfl
  have hfw0 : ∀ o, w.frozen? ⟨b, o, none⟩ = false := fun o => frozen_of_row _ _ _ _ _ hr0
  have hyw0 : b < w.heap.size := row_lt hr0
  clear hr0 ho0
  have HB0 := Lib.hid (Below.refl b w)
  have nh1 : (c != k.id) = true := by simp only [bne, h1]; rfl
  go_enter Try.func41, Try.ntmps41
  go_wp2
  go_ret
  exact ⟨rfl, HE0.out, HB0.out⟩
set_option maxHeartbeats 2000000 in
theorem conf_stale2 (b : Nat) (k : Lk) (now : Int) (hI : k.In) (hn0 : 0 ≤ now) (hn1 : now ≤ 1099511627776) (a c : Int) (ha0 : 0 ≤ a) (ha1 : a ≤ 65535) (hs0 : (k.st == 0) = false) (hs : (k.st == 5) = false) (h1 : (c == k.id) = true) (h2 : 1 ≤ k.ot) (h3 : (a == k.ot) = false) (w : World) (h : EndAt w b k now []) :
    Calls Try.prog 41 #[.pointer (some ⟨b, 0, none⟩), .int .i64 a, .int .i64 c] w fun e w' => e = .returned (.int .i64 21) ∧ EndAt w' b k now [] ∧ Below b w w' := by
  obtain ⟨hid0, hid1, hot0, hot1⟩ := hI
  have HE0 := Lib.hid h
  clear h
  obtain ⟨v0, hr0, ho0⟩ := HE0.out
  have c12w0 : w.cell? ⟨b, 12, none⟩ = some (.int .u8 k.st) := (cell_of_row _ _ _ _ _ _ hr0).trans rfl
  have c13w0 : w.cell? ⟨b, 13, none⟩ = some (.int .i64 k.id) := (cell_of_row _ _ _ _ _ _ hr0).trans rfl
  have c14w0 : w.cell? ⟨b, 14, none⟩ = some (.int .i64 k.ot) := (cell_of_row _ _ _ _ _ _ hr0).trans rfl
  have hfw0 : ∀ o, w.frozen? ⟨b, o, none⟩ = false := fun o => frozen_of_row _ _ _ _ _ hr0
  have hyw0 : b < w.heap.size := row_lt hr0
  clear hr0 ho0
  have HB0 := Lib.hid (Below.refl b w)
  have nh1 : (c != k.id) = false := by simp only [bne, h1]; rfl
  have nh3 : (a != k.ot) = true := by simp only [bne, h3]; rfl
  have z1 : (k.ot == 0) = false := by simp; omega
  have z2 : (k.ot != 0) = true := by simp only [bne, z1]; rfl
  go_enter Try.func41, Try.ntmps41
  go_wp2
  go_ret
  exact ⟨rfl, HE0.out, HB0.out⟩
set_option maxHeartbeats 2000000 in
theorem conf_sent (b : Nat) (k : Lk) (now : Int) (hI : k.In) (hn0 : 0 ≤ now) (hn1 : now ≤ 1099511627776) (a c : Int) (ha0 : 0 ≤ a) (ha1 : a ≤ 65535) (hs : k.st = 1) (h1 : (c == k.id) = true) (h2 : k.ot < 1) (w : World) (h : EndAt w b k now []) :
    Calls Try.prog 41 #[.pointer (some ⟨b, 0, none⟩), .int .i64 a, .int .i64 c] w fun e w' => e = .returned (.int .i64 0) ∧ EndAt w' b (waitK { k with ot := a } 3 now) now [] ∧ Below b w w' := by
  obtain ⟨hid0, hid1, hot0, hot1⟩ := hI
  have HE0 := Lib.hid h
  clear h
  obtain ⟨v0, hr0, ho0⟩ := HE0.out
  have c12w0 : w.cell? ⟨b, 12, none⟩ = some (.int .u8 k.st) := (cell_of_row _ _ _ _ _ _ hr0).trans rfl
  have c13w0 : w.cell? ⟨b, 13, none⟩ = some (.int .i64 k.id) := (cell_of_row _ _ _ _ _ _ hr0).trans rfl
  have c14w0 : w.cell? ⟨b, 14, none⟩ = some (.int .i64 k.ot) := (cell_of_row _ _ _ _ _ _ hr0).trans rfl
  have hfw0 : ∀ o, w.frozen? ⟨b, o, none⟩ = false := fun o => frozen_of_row _ _ _ _ _ hr0
  have hyw0 : b < w.heap.size := row_lt hr0
  clear hr0 ho0
  have HB0 := Lib.hid (Below.refl b w)
  have nh1 : (c != k.id) = false := by simp only [bne, h1]; rfl
  have z1 : (k.ot == 0) = true := by simp; omega
  have z2 : (k.ot != 0) = false := by simp only [bne, z1]; rfl
  go_enter Try.func41, Try.ntmps41
  go_wp2_with fail
  refine (wait_end b { k with ot := a } now [] 3 hn0 hn1 _ (HE0.out.setOt a)).mono ?_
  rintro e w1 ⟨rfl, hE1, hb1⟩
  have HE1 := Lib.hid hE1
  have HB1 := Lib.hid ((HB0.out.setCell (p := ⟨b, 14, none⟩) (Nat.le_refl b) _).trans hb1)
  clear hE1 hb1
  clear c12w0 c13w0 c14w0 hfw0 hyw0 v0
  go_wp2
  go_ret
  exact ⟨rfl, HE1.out, HB1.out⟩
set_option maxHeartbeats 2000000 in
theorem conf_got (b : Nat) (k : Lk) (now : Int) (hI : k.In) (hn0 : 0 ≤ now) (hn1 : now ≤ 1099511627776) (a c : Int) (ha0 : 0 ≤ a) (ha1 : a ≤ 65535) (hs : k.st = 2) (h1 : (c == k.id) = true) (h2 : 1 ≤ k.ot) (h3 : (a == k.ot) = true) (w : World) (h : EndAt w b k now []) :
    Calls Try.prog 41 #[.pointer (some ⟨b, 0, none⟩), .int .i64 a, .int .i64 c] w fun e w' => e = .returned (.int .i64 0) ∧ EndAt w' b (upK k) now [] ∧ Below b w w' := by
  obtain ⟨hid0, hid1, hot0, hot1⟩ := hI
  have HE0 := Lib.hid h
  clear h
  obtain ⟨v0, hr0, ho0⟩ := HE0.out
  have c12w0 : w.cell? ⟨b, 12, none⟩ = some (.int .u8 k.st) := (cell_of_row _ _ _ _ _ _ hr0).trans rfl
  have c13w0 : w.cell? ⟨b, 13, none⟩ = some (.int .i64 k.id) := (cell_of_row _ _ _ _ _ _ hr0).trans rfl
  have c14w0 : w.cell? ⟨b, 14, none⟩ = some (.int .i64 k.ot) := (cell_of_row _ _ _ _ _ _ hr0).trans rfl
  have hfw0 : ∀ o, w.frozen? ⟨b, o, none⟩ = false := fun o => frozen_of_row _ _ _ _ _ hr0
  have hyw0 : b < w.heap.size := row_lt hr0
  clear hr0 ho0
  have HB0 := Lib.hid (Below.refl b w)
  have nh1 : (c != k.id) = false := by simp only [bne, h1]; rfl
  have nh3 : (a != k.ot) = false := by simp only [bne, h3]; rfl
  have z1 : (k.ot == 0) = false := by simp; omega
  have z2 : (k.ot != 0) = true := by simp only [bne, z1]; rfl
  go_enter Try.func41, Try.ntmps41
  go_wp2_with fail
  refine (up_end b k now [] _ HE0.out).mono ?_
  rintro e w1 ⟨rfl, hE1, hb1⟩
  have HE1 := Lib.hid hE1
  have HB1 := Lib.hid (HB0.out.trans hb1)
  clear hE1 hb1
  clear c12w0 c13w0 c14w0 hfw0 hyw0 v0
  go_wp2
  go_ret
  exact ⟨rfl, HE1.out, HB1.out⟩
set_option maxHeartbeats 2000000 in
theorem conf_rest (b : Nat) (k : Lk) (now : Int) (hI : k.In) (hn0 : 0 ≤ now) (hn1 : now ≤ 1099511627776) (a c : Int) (ha0 : 0 ≤ a) (ha1 : a ≤ 65535) (hs : k.st = 3 ∨ k.st = 4) (h1 : (c == k.id) = true) (h2 : 1 ≤ k.ot) (h3 : (a == k.ot) = true) (w : World) (h : EndAt w b k now []) :
    Calls Try.prog 41 #[.pointer (some ⟨b, 0, none⟩), .int .i64 a, .int .i64 c] w fun e w' => e = .returned (.int .i64 0) ∧ EndAt w' b k now [] ∧ Below b w w' := by
  obtain ⟨hid0, hid1, hot0, hot1⟩ := hI
  have HE0 := Lib.hid h
  clear h
  obtain ⟨v0, hr0, ho0⟩ := HE0.out
  have c12w0 : w.cell? ⟨b, 12, none⟩ = some (.int .u8 k.st) := (cell_of_row _ _ _ _ _ _ hr0).trans rfl
  have c13w0 : w.cell? ⟨b, 13, none⟩ = some (.int .i64 k.id) := (cell_of_row _ _ _ _ _ _ hr0).trans rfl
  have c14w0 : w.cell? ⟨b, 14, none⟩ = some (.int .i64 k.ot) := (cell_of_row _ _ _ _ _ _ hr0).trans rfl
  have hfw0 : ∀ o, w.frozen? ⟨b, o, none⟩ = false := fun o => frozen_of_row _ _ _ _ _ hr0
  have hyw0 : b < w.heap.size := row_lt hr0
  clear hr0 ho0
  have HB0 := Lib.hid (Below.refl b w)
  have nh1 : (c != k.id) = false := by simp only [bne, h1]; rfl
  have nh3 : (a != k.ot) = false := by simp only [bne, h3]; rfl
  have z1 : (k.ot == 0) = false := by simp; omega
  have z2 : (k.ot != 0) = true := by simp only [bne, z1]; rfl
  rcases hs with hs | hs
  all_goals
    go_enter Try.func41, Try.ntmps41
    go_wp2
    go_ret
    exact ⟨rfl, HE0.out, HB0.out⟩
set_option maxHeartbeats 2000000 in
theorem closed_idle (b : Nat) (k : Lk) (now : Int) (hI : k.In) (hn0 : 0 ≤ now) (hn1 : now ≤ 1099511627776) (a c : Int) (ha0 : 0 ≤ a) (ha1 : a ≤ 65535) (hs : k.st = 0) (w : World) (h : EndAt w b k now []) :
    Calls Try.prog 42 #[.pointer (some ⟨b, 0, none⟩), .int .i64 a, .int .i64 c] w fun e w' => e = .returned (.int .i64 20) ∧ EndAt w' b k now [] ∧ Below b w w' := by
  obtain ⟨hid0, hid1, hot0, hot1⟩ := hI
  have HE0 := Lib.hid h
  clear h
  obtain ⟨v0, hr0, ho0⟩ := HE0.out
  have c12w0 : w.cell? ⟨b, 12, none⟩ = some (.int .u8 k.st) := (cell_of_row _ _ _ _ _ _ hr0).trans rfl
  have c13w0 : w.cell? ⟨b, 13, none⟩ = some (.int .i64 k.id) := (cell_of_row _ _ _ _ _ _ hr0).trans rfl
  have c14w0 : w.cell? ⟨b, 14, none⟩ = some (.int .i64 k.ot) := (cell_of_row _ _ _ _ _ _ hr0).trans rfl
  have hfw0 : ∀ o, w.frozen? ⟨b, o, none⟩ = false := fun o => frozen_of_row _ _ _ _ _ hr0
  have hyw0 : b < w.heap.size := row_lt hr0
  clear hr0 ho0
  have HB0 := Lib.hid (Below.refl b w)
  go_enter Try.func42, Try.ntmps42
  go_wp2
  go_ret
  exact ⟨rfl, HE0.out, HB0.out⟩
set_option maxHeartbeats 2000000 in
theorem closed_stale1 (b : Nat) (k : Lk) (now : Int) (hI : k.In) (hn0 : 0 ≤ now) (hn1 : now ≤ 1099511627776) (a c : Int) (ha0 : 0 ≤ a) (ha1 : a ≤ 65535) (hs0 : (k.st == 0) = false) (h0 : (c == 0) = false) (h1 : (c == k.id) = false) (w : World) (h : EndAt w b k now []) :
    Calls Try.prog 42 #[.pointer (some ⟨b, 0, none⟩), .int .i64 a, .int .i64 c] w fun e w' => e = .returned (.int .i64 21) ∧ EndAt w' b k now [] ∧ Below b w w' := by
  obtain ⟨hid0, hid1, hot0, hot1⟩ := hI
  have HE0 := Lib.hid h
  clear h
  obtain ⟨v0, hr0, ho0⟩ := HE0.out
  have c12w0 : w.cell? ⟨b, 12, none⟩ = some (.int .u8 k.st) := (cell_of_row _ _ _ _ _ _ hr0).trans rfl
  have c13w0 : w.cell? ⟨b, 13, none⟩ = some (.int .i64 k.id) := (cell_of_row _ _ _ _ _ _ hr0).trans rfl
  have c14w0 : w.cell? ⟨b, 14, none⟩ = some (.int .i64 k.ot) := (cell_of_row _ _ _ _ _ _ hr0).trans rfl
  have hfw0 : ∀ o, w.frozen? ⟨b, o, none⟩ = false := fun o => frozen_of_row _ _ _ _ _ hr0
  have hyw0 : b < w.heap.size := row_lt hr0
  clear hr0 ho0
  have HB0 := Lib.hid (Below.refl b w)
  have nh0 : (c != 0) = true := by simp only [bne, h0]; rfl
  have nh1 : (c != k.id) = true := by simp only [bne, h1]; rfl
  go_enter Try.func42, Try.ntmps42
  go_wp2
  go_ret
  exact ⟨rfl, HE0.out, HB0.out⟩
set_option maxHeartbeats 2000000 in
theorem closed_stale2 (b : Nat) (k : Lk) (now : Int) (hI : k.In) (hn0 : 0 ≤ now) (hn1 : now ≤ 1099511627776) (a c : Int) (ha0 : 0 ≤ a) (ha1 : a ≤ 65535) (hs0 : (k.st == 0) = false) (h1 : (c == 0) = true ∨ ((c == 0) = false ∧ (c == k.id) = true)) (h2 : 1 ≤ k.ot) (h3 : (a == k.ot) = false) (w : World) (h : EndAt w b k now []) :
    Calls Try.prog 42 #[.pointer (some ⟨b, 0, none⟩), .int .i64 a, .int .i64 c] w fun e w' => e = .returned (.int .i64 21) ∧ EndAt w' b k now [] ∧ Below b w w' := by
  obtain ⟨hid0, hid1, hot0, hot1⟩ := hI
  have HE0 := Lib.hid h
  clear h
  obtain ⟨v0, hr0, ho0⟩ := HE0.out
  have c12w0 : w.cell? ⟨b, 12, none⟩ = some (.int .u8 k.st) := (cell_of_row _ _ _ _ _ _ hr0).trans rfl
  have c13w0 : w.cell? ⟨b, 13, none⟩ = some (.int .i64 k.id) := (cell_of_row _ _ _ _ _ _ hr0).trans rfl
  have c14w0 : w.cell? ⟨b, 14, none⟩ = some (.int .i64 k.ot) := (cell_of_row _ _ _ _ _ _ hr0).trans rfl
  have hfw0 : ∀ o, w.frozen? ⟨b, o, none⟩ = false := fun o => frozen_of_row _ _ _ _ _ hr0
  have hyw0 : b < w.heap.size := row_lt hr0
  clear hr0 ho0
  have HB0 := Lib.hid (Below.refl b w)
  have nh3 : (a != k.ot) = true := by simp only [bne, h3]; rfl
  have z1 : (k.ot == 0) = false := by simp; omega
  have z2 : (k.ot != 0) = true := by simp only [bne, z1]; rfl
  rcases h1 with h1 | ⟨h1, h1'⟩
  · have nc : (c != 0) = false := by simp only [bne, h1]; rfl
    go_enter Try.func42, Try.ntmps42
    go_wp2
    go_ret
    exact ⟨rfl, HE0.out, HB0.out⟩
  · have nc : (c != 0) = true := by simp only [bne, h1]; rfl
    have nd : (c != k.id) = false := by simp only [bne, h1']; rfl
    go_enter Try.func42, Try.ntmps42
    go_wp2
    go_ret
    exact ⟨rfl, HE0.out, HB0.out⟩
set_option maxHeartbeats 2000000 in
theorem closed_hold (b : Nat) (k : Lk) (now : Int) (hI : k.In) (hn0 : 0 ≤ now) (hn1 : now ≤ 1099511627776) (a c : Int) (ha0 : 0 ≤ a) (ha1 : a ≤ 65535) (hs : k.st = 5) (h1 : (c == 0) = true ∨ ((c == 0) = false ∧ (c == k.id) = true)) (h2 : k.ot < 1 ∨ (1 ≤ k.ot ∧ (a == k.ot) = true)) (w : World) (h : EndAt w b k now []) :
    Calls Try.prog 42 #[.pointer (some ⟨b, 0, none⟩), .int .i64 a, .int .i64 c] w fun e w' => e = .returned (.int .i64 0) ∧ EndAt w' b (finK k) now [] ∧ Below b w w' := by
  obtain ⟨hid0, hid1, hot0, hot1⟩ := hI
  have HE0 := Lib.hid h
  clear h
  obtain ⟨v0, hr0, ho0⟩ := HE0.out
  have c12w0 : w.cell? ⟨b, 12, none⟩ = some (.int .u8 k.st) := (cell_of_row _ _ _ _ _ _ hr0).trans rfl
  have c13w0 : w.cell? ⟨b, 13, none⟩ = some (.int .i64 k.id) := (cell_of_row _ _ _ _ _ _ hr0).trans rfl
  have c14w0 : w.cell? ⟨b, 14, none⟩ = some (.int .i64 k.ot) := (cell_of_row _ _ _ _ _ _ hr0).trans rfl
  have hfw0 : ∀ o, w.frozen? ⟨b, o, none⟩ = false := fun o => frozen_of_row _ _ _ _ _ hr0
  have hyw0 : b < w.heap.size := row_lt hr0
  clear hr0 ho0
  have HB0 := Lib.hid (Below.refl b w)
  rcases h2 with h2 | ⟨h2, h3⟩
  · have z1 : (k.ot == 0) = true := by simp; omega
    have z2 : (k.ot != 0) = false := by simp only [bne, z1]; rfl
    rcases h1 with h1 | ⟨h1, h1'⟩
    · have nc : (c != 0) = false := by simp only [bne, h1]; rfl
      go_enter Try.func42, Try.ntmps42
      go_wp2_with fail
      refine (finish_end b k now [] (by omega) hid1 _ HE0.out).mono ?_
      rintro e w1 ⟨rfl, hE1, hb1⟩
      have HE1 := Lib.hid hE1
      have HB1 := Lib.hid (HB0.out.trans hb1)
      clear hE1 hb1
      clear c12w0 c13w0 c14w0 hfw0 hyw0 v0
      go_wp2
      go_ret
      exact ⟨rfl, HE1.out, HB1.out⟩
    · have nc : (c != 0) = true := by simp only [bne, h1]; rfl
      have nd : (c != k.id) = false := by simp only [bne, h1']; rfl
      go_enter Try.func42, Try.ntmps42
      go_wp2_with fail
      refine (finish_end b k now [] (by omega) hid1 _ HE0.out).mono ?_
      rintro e w1 ⟨rfl, hE1, hb1⟩
      have HE1 := Lib.hid hE1
      have HB1 := Lib.hid (HB0.out.trans hb1)
      clear hE1 hb1
      clear c12w0 c13w0 c14w0 hfw0 hyw0 v0
      go_wp2
      go_ret
      exact ⟨rfl, HE1.out, HB1.out⟩
  · have z1 : (k.ot == 0) = false := by simp; omega
    have z2 : (k.ot != 0) = true := by simp only [bne, z1]; rfl
    have z3 : (a != k.ot) = false := by simp only [bne, h3]; rfl
    rcases h1 with h1 | ⟨h1, h1'⟩
    · have nc : (c != 0) = false := by simp only [bne, h1]; rfl
      go_enter Try.func42, Try.ntmps42
      go_wp2_with fail
      refine (finish_end b k now [] (by omega) hid1 _ HE0.out).mono ?_
      rintro e w1 ⟨rfl, hE1, hb1⟩
      have HE1 := Lib.hid hE1
      have HB1 := Lib.hid (HB0.out.trans hb1)
      clear hE1 hb1
      clear c12w0 c13w0 c14w0 hfw0 hyw0 v0
      go_wp2
      go_ret
      exact ⟨rfl, HE1.out, HB1.out⟩
    · have nc : (c != 0) = true := by simp only [bne, h1]; rfl
      have nd : (c != k.id) = false := by simp only [bne, h1']; rfl
      go_enter Try.func42, Try.ntmps42
      go_wp2_with fail
      refine (finish_end b k now [] (by omega) hid1 _ HE0.out).mono ?_
      rintro e w1 ⟨rfl, hE1, hb1⟩
      have HE1 := Lib.hid hE1
      have HB1 := Lib.hid (HB0.out.trans hb1)
      clear hE1 hb1
      clear c12w0 c13w0 c14w0 hfw0 hyw0 v0
      go_wp2
      go_ret
      exact ⟨rfl, HE1.out, HB1.out⟩
set_option maxHeartbeats 2000000 in
theorem closed_rest (b : Nat) (k : Lk) (now : Int) (hI : k.In) (hn0 : 0 ≤ now) (hn1 : now ≤ 1099511627776) (a c : Int) (ha0 : 0 ≤ a) (ha1 : a ≤ 65535) (hs0 : (k.st == 0) = false) (hs : (k.st == 5) = false) (h1 : (c == 0) = true ∨ ((c == 0) = false ∧ (c == k.id) = true)) (h2 : k.ot < 1 ∨ (1 ≤ k.ot ∧ (a == k.ot) = true)) (w : World) (h : EndAt w b k now []) :
    Calls Try.prog 42 #[.pointer (some ⟨b, 0, none⟩), .int .i64 a, .int .i64 c] w fun e w' => e = .returned (.int .i64 0) ∧ EndAt w' b (clK k now) now [msgOf 3 k.id k.ot] ∧ Below b w w' := by
  obtain ⟨hid0, hid1, hot0, hot1⟩ := hI
  have HE0 := Lib.hid h
  clear h
  obtain ⟨v0, hr0, ho0⟩ := HE0.out
  have c12w0 : w.cell? ⟨b, 12, none⟩ = some (.int .u8 k.st) := (cell_of_row _ _ _ _ _ _ hr0).trans rfl
  have c13w0 : w.cell? ⟨b, 13, none⟩ = some (.int .i64 k.id) := (cell_of_row _ _ _ _ _ _ hr0).trans rfl
  have c14w0 : w.cell? ⟨b, 14, none⟩ = some (.int .i64 k.ot) := (cell_of_row _ _ _ _ _ _ hr0).trans rfl
  have hfw0 : ∀ o, w.frozen? ⟨b, o, none⟩ = false := fun o => frozen_of_row _ _ _ _ _ hr0
  have hyw0 : b < w.heap.size := row_lt hr0
  clear hr0 ho0
  have HB0 := Lib.hid (Below.refl b w)
  rcases h2 with h2 | ⟨h2, h3⟩
  · have z1 : (k.ot == 0) = true := by simp; omega
    have z2 : (k.ot != 0) = false := by simp only [bne, z1]; rfl
    rcases h1 with h1 | ⟨h1, h1'⟩
    · have nc : (c != 0) = false := by simp only [bne, h1]; rfl
      go_enter Try.func42, Try.ntmps42
      go_wp2_with fail
      refine (close_end b k now [] (by decide) (by omega) hid1 hot0 hot1 hn0 hn1 _ HE0.out).mono ?_
      rintro e w1 ⟨rfl, hE1, hb1⟩
      have HE1 := Lib.hid hE1
      have HB1 := Lib.hid (HB0.out.trans hb1)
      clear hE1 hb1
      clear c12w0 c13w0 c14w0 hfw0 hyw0 v0
      go_wp2
      go_ret
      exact ⟨rfl, HE1.out, HB1.out⟩
    · have nc : (c != 0) = true := by simp only [bne, h1]; rfl
      have nd : (c != k.id) = false := by simp only [bne, h1']; rfl
      go_enter Try.func42, Try.ntmps42
      go_wp2_with fail
      refine (close_end b k now [] (by decide) (by omega) hid1 hot0 hot1 hn0 hn1 _ HE0.out).mono ?_
      rintro e w1 ⟨rfl, hE1, hb1⟩
      have HE1 := Lib.hid hE1
      have HB1 := Lib.hid (HB0.out.trans hb1)
      clear hE1 hb1
      clear c12w0 c13w0 c14w0 hfw0 hyw0 v0
      go_wp2
      go_ret
      exact ⟨rfl, HE1.out, HB1.out⟩
  · have z1 : (k.ot == 0) = false := by simp; omega
    have z2 : (k.ot != 0) = true := by simp only [bne, z1]; rfl
    have z3 : (a != k.ot) = false := by simp only [bne, h3]; rfl
    rcases h1 with h1 | ⟨h1, h1'⟩
    · have nc : (c != 0) = false := by simp only [bne, h1]; rfl
      go_enter Try.func42, Try.ntmps42
      go_wp2_with fail
      refine (close_end b k now [] (by decide) (by omega) hid1 hot0 hot1 hn0 hn1 _ HE0.out).mono ?_
      rintro e w1 ⟨rfl, hE1, hb1⟩
      have HE1 := Lib.hid hE1
      have HB1 := Lib.hid (HB0.out.trans hb1)
      clear hE1 hb1
      clear c12w0 c13w0 c14w0 hfw0 hyw0 v0
      go_wp2
      go_ret
      exact ⟨rfl, HE1.out, HB1.out⟩
    · have nc : (c != 0) = true := by simp only [bne, h1]; rfl
      have nd : (c != k.id) = false := by simp only [bne, h1']; rfl
      go_enter Try.func42, Try.ntmps42
      go_wp2_with fail
      refine (close_end b k now [] (by decide) (by omega) hid1 hot0 hot1 hn0 hn1 _ HE0.out).mono ?_
      rintro e w1 ⟨rfl, hE1, hb1⟩
      have HE1 := Lib.hid hE1
      have HB1 := Lib.hid (HB0.out.trans hb1)
      clear hE1 hb1
      clear c12w0 c13w0 c14w0 hfw0 hyw0 v0
      go_wp2
      go_ret
      exact ⟨rfl, HE1.out, HB1.out⟩
end Go.Proofs.Ytmighkgjbohieaa
