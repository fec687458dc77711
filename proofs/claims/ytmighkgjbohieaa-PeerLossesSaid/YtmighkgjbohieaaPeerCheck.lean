/-
  The contract of peer.Check: which links are valid.
-/
import Derived.Test.YtmighkgjbohieaaPeerB
set_option linter.unusedVariables false
set_option linter.unusedSimpArgs false
namespace Go.Proofs.Ytmighkgjbohieaa
open Go.ChangeShapes Go.WideShapes Go.ChangeAt Go.RowKit Go.Great

/-- The bytes of a link's addresses are bytes. -/
structure Lk.By (k : Lk) : Prop where
  (o0 : 0 ≤ k.o0 ∧ k.o0 ≤ 255) (o1 : 0 ≤ k.o1 ∧ k.o1 ≤ 255) (o2 : 0 ≤ k.o2 ∧ k.o2 ≤ 255) (o3 : 0 ≤ k.o3 ∧ k.o3 ≤ 255) (o4 : 0 ≤ k.o4 ∧ k.o4 ≤ 255) (o5 : 0 ≤ k.o5 ∧ k.o5 ≤ 255)
  (p0 : 0 ≤ k.p0 ∧ k.p0 ≤ 255) (p1 : 0 ≤ k.p1 ∧ k.p1 ≤ 255) (p2 : 0 ≤ k.p2 ∧ k.p2 ≤ 255) (p3 : 0 ≤ k.p3 ∧ k.p3 ≤ 255) (p4 : 0 ≤ k.p4 ∧ k.p4 ≤ 255) (p5 : 0 ≤ k.p5 ∧ k.p5 ≤ 255)
def Lk.same (k : Lk) : Bool := decide (k.o0 = k.p0 ∧ k.o1 = k.p1 ∧ k.o2 = k.p2 ∧ k.o3 = k.p3 ∧ k.o4 = k.p4 ∧ k.o5 = k.p5)
def btw (n lo hi : Int) : Bool := decide (lo ≤ n ∧ n ≤ hi)
/-- The tests on the identifiers, tries and time, by stage. -/
def Lk.rest (k : Lk) : Bool :=
  if k.st = 0 then btw k.ot 0 0 && (k.tr == 0 && k.du == 0)
  else if k.st = 1 then btw k.ot 0 0 && (btw k.tr 1 3 && btw k.du 1 1099511667776)
  else if k.st = 2 ∨ k.st = 3 then btw k.ot 1 65535 && (btw k.tr 1 3 && btw k.du 1 1099511667776)
  else if k.st = 4 then btw k.ot 1 65535 && (k.tr == 0 && k.du == 0)
  else if k.st = 5 then btw k.ot 0 65535 && (k.tr == 0 && btw k.du 1 1099511667776)
  else false
def Lk.ok (k : Lk) : Bool := !k.same && (btw k.id 1 65535 && k.rest)
def Lk.chk (k : Lk) : Int := if k.ok then 0 else 8

theorem btw_yes {n lo hi : Int} (h : lo ≤ n ∧ n ≤ hi) : btw n lo hi = true := by simp [btw, h]
theorem btw_no {n lo hi : Int} (h : ¬ (lo ≤ n ∧ n ≤ hi)) : btw n lo hi = false := by simp only [btw, h, decide_false]
theorem between_any (n lo hi : Int) (w : World) : Calls Try.prog 35 #[.int .i64 n, .int .i64 lo, .int .i64 hi] w fun e w' => e = .returned (.bool (btw n lo hi)) ∧ w = w' := by
  by_cases h1 : lo ≤ n <;> by_cases h2 : n ≤ hi
  all_goals
    go_enter Try.func35, Try.ntmps35
    go_wp2
    go_ret
    refine ⟨fr_retb ?_, rfl⟩
    first | (rw [btw_yes ⟨by omega, by omega⟩]; done) | (rw [btw_no (by omega)]; done) | (rw [btw_yes ⟨by omega, by omega⟩]; simp; omega) | (rw [btw_no (by omega)]; simp; omega)

def addrB (a0 a1 a2 a3 a4 a5 s0 s1 s2 s3 s4 s5 : Int) : Bool := decide (a0 = s0 ∧ a1 = s1 ∧ a2 = s2 ∧ a3 = s3 ∧ a4 = s4 ∧ a5 = s5)
theorem u8_wf {n : Int} (h : 0 ≤ n ∧ n ≤ 255) : (Lit.int .u8 n).wf = true := by simp [Lit.wf, IntKind.min, IntKind.max, IntKind.signed, IntKind.bits]; omega
theorem addr_lits (a0 a1 a2 a3 a4 a5 : Int) (h0 : 0 ≤ a0 ∧ a0 ≤ 255) (h1 : 0 ≤ a1 ∧ a1 ≤ 255) (h2 : 0 ≤ a2 ∧ a2 ≤ 255) (h3 : 0 ≤ a3 ∧ a3 ≤ 255) (h4 : 0 ≤ a4 ∧ a4 ≤ 255) (h5 : 0 ≤ a5 ∧ a5 ≤ 255) :
    Try.prog.keyLits 3 25 [.int .u8 a0, .int .u8 a1, .int .u8 a2, .int .u8 a3, .int .u8 a4, .int .u8 a5] = some [.int .u8 a0, .int .u8 a1, .int .u8 a2, .int .u8 a3, .int .u8 a4, .int .u8 a5] := by
  have c1 : Try.prog.cellsOf 25 = 6 := by kernel_rfl
  have c2 : Try.prog.cellsOf 5 = 1 := by kernel_rfl
  have r6 : List.range 6 = [0, 1, 2, 3, 4, 5] := rfl
  simp [Program.keyLits, Try.underlying25, Try.underlying5, c1, c2, r6, u8_wf, h0, h1, h2, h3, h4, h5]
theorem eql_addr (a0 a1 a2 a3 a4 a5 s0 s1 s2 s3 s4 s5 : Int) (h0 : 0 ≤ a0 ∧ a0 ≤ 255) (h1 : 0 ≤ a1 ∧ a1 ≤ 255) (h2 : 0 ≤ a2 ∧ a2 ≤ 255) (h3 : 0 ≤ a3 ∧ a3 ≤ 255) (h4 : 0 ≤ a4 ∧ a4 ≤ 255) (h5 : 0 ≤ a5 ∧ a5 ≤ 255)
    (g0 : 0 ≤ s0 ∧ s0 ≤ 255) (g1 : 0 ≤ s1 ∧ s1 ≤ 255) (g2 : 0 ≤ s2 ∧ s2 ≤ 255) (g3 : 0 ≤ s3 ∧ s3 ≤ 255) (g4 : 0 ≤ s4 ∧ s4 ≤ 255) (g5 : 0 ≤ s5 ∧ s5 ≤ 255) (w : World) :
    (Op.equalIn 10000 25 (.agg #[.int .u8 a0, .int .u8 a1, .int .u8 a2, .int .u8 a3, .int .u8 a4, .int .u8 a5]) (.agg #[.int .u8 s0, .int .u8 s1, .int .u8 s2, .int .u8 s3, .int .u8 s4, .int .u8 s5])).run Try.prog w = .ok (addrB a0 a1 a2 a3 a4 a5 s0 s1 s2 s3 s4 s5) w := by
  have c1 : Try.prog.cellsOf 25 = 6 := by kernel_rfl
  have hk : Try.prog.keyTypeAt 3 25 = true := by kernel_rfl
  obtain ⟨r, hr, hiff⟩ := run_equalIn_deep 9997 3 25 hk w 3 3 (.agg #[.int .u8 a0, .int .u8 a1, .int .u8 a2, .int .u8 a3, .int .u8 a4, .int .u8 a5]) (.agg #[.int .u8 s0, .int .u8 s1, .int .u8 s2, .int .u8 s3, .int .u8 s4, .int .u8 s5]) _ _ (by simp [Value.formed, Try.underlying25, c1]) (by simp [Value.formed, Try.underlying25, c1]) (addr_lits a0 a1 a2 a3 a4 a5 h0 h1 h2 h3 h4 h5) (addr_lits s0 s1 s2 s3 s4 s5 g0 g1 g2 g3 g4 g5)
  rw [hr]
  congr 1
  rw [Bool.eq_iff_iff, hiff]
  simp [addrB]

set_option maxHeartbeats 2000000 in
theorem check_0 (k : Lk) (hB : k.By) (hs : k.st = 0) (w : World) : Calls Try.prog 14 #[.agg k.cells] w fun e w' => e = .returned (.int .i64 k.chk) ∧ Below w.heap.size w w' := by
  have hc : (k.same = true) ∨ (k.same = false ∧ btw k.id 1 65535 = false) ∨ (k.same = false ∧ btw k.id 1 65535 = true ∧ btw k.ot 0 0 = false) ∨ (k.same = false ∧ btw k.id 1 65535 = true ∧ btw k.ot 0 0 = true ∧ (k.tr == 0) = false) ∨ (k.same = false ∧ btw k.id 1 65535 = true ∧ btw k.ot 0 0 = true ∧ (k.tr == 0) = true ∧ (k.du == 0) = false) ∨ (k.same = false ∧ btw k.id 1 65535 = true ∧ btw k.ot 0 0 = true ∧ (k.tr == 0) = true ∧ (k.du == 0) = true) := by
    generalize k.same = x0
    generalize btw k.id 1 65535 = x1
    generalize btw k.ot 0 0 = x2
    generalize (k.tr == 0) = x3
    generalize (k.du == 0) = x4
    cases x0 <;> cases x1 <;> cases x2 <;> cases x3 <;> cases x4 <;> simp
  rcases hc with h0 | ⟨h0, h1⟩ | ⟨h0, h1, h2⟩ | ⟨h0, h1, h2, h3⟩ | ⟨h0, h1, h2, h3, h4⟩ | ⟨h0, h1, h2, h3, h4⟩
  · have hr := Lib.hid (show k.chk = 8 by simp only [Lk.chk, Lk.ok, Lk.rest, hs, h0]; rfl)
    have E := eql_addr k.o0 k.o1 k.o2 k.o3 k.o4 k.o5 k.p0 k.p1 k.p2 k.p3 k.p4 k.p5 hB.o0 hB.o1 hB.o2 hB.o3 hB.o4 hB.o5 hB.p0 hB.p1 hB.p2 hB.p3 hB.p4 hB.p5
    rw [show addrB k.o0 k.o1 k.o2 k.o3 k.o4 k.o5 k.p0 k.p1 k.p2 k.p3 k.p4 k.p5 = k.same from rfl, h0] at E
    clear h0
    obtain ⟨o0, o1, o2, o3, o4, o5, p0, p1, p2, p3, p4, p5, st, id, ot, tr, du⟩ := k
    simp only at *
    subst hs
    unfold Lk.cells
    go_enter Try.func14, Try.ntmps14
    go_wp2
    go_ret
    exact ⟨fr_ret hr.out.symm, by go_grown⟩
  · have hr := Lib.hid (show k.chk = 8 by simp only [Lk.chk, Lk.ok, Lk.rest, hs, h0, h1]; rfl)
    have E := eql_addr k.o0 k.o1 k.o2 k.o3 k.o4 k.o5 k.p0 k.p1 k.p2 k.p3 k.p4 k.p5 hB.o0 hB.o1 hB.o2 hB.o3 hB.o4 hB.o5 hB.p0 hB.p1 hB.p2 hB.p3 hB.p4 hB.p5
    rw [show addrB k.o0 k.o1 k.o2 k.o3 k.o4 k.o5 k.p0 k.p1 k.p2 k.p3 k.p4 k.p5 = k.same from rfl, h0] at E
    have H1 := Lib.hid h1
    clear h1
    clear h0
    obtain ⟨o0, o1, o2, o3, o4, o5, p0, p1, p2, p3, p4, p5, st, id, ot, tr, du⟩ := k
    simp only at *
    subst hs
    unfold Lk.cells
    go_enter Try.func14, Try.ntmps14
    go_wp2_with (go_at_call 35; (with_reducible refine (between_any _ _ _ _).mono ?_); rintro e w' ⟨rfl, rfl⟩; simp only [H1.out])
    go_ret
    exact ⟨fr_ret hr.out.symm, by go_grown⟩
  · have hr := Lib.hid (show k.chk = 8 by simp only [Lk.chk, Lk.ok, Lk.rest, hs, h0, h1, h2]; rfl)
    have E := eql_addr k.o0 k.o1 k.o2 k.o3 k.o4 k.o5 k.p0 k.p1 k.p2 k.p3 k.p4 k.p5 hB.o0 hB.o1 hB.o2 hB.o3 hB.o4 hB.o5 hB.p0 hB.p1 hB.p2 hB.p3 hB.p4 hB.p5
    rw [show addrB k.o0 k.o1 k.o2 k.o3 k.o4 k.o5 k.p0 k.p1 k.p2 k.p3 k.p4 k.p5 = k.same from rfl, h0] at E
    have H1 := Lib.hid h1
    clear h1
    have H2 := Lib.hid h2
    clear h2
    clear h0
    obtain ⟨o0, o1, o2, o3, o4, o5, p0, p1, p2, p3, p4, p5, st, id, ot, tr, du⟩ := k
    simp only at *
    subst hs
    unfold Lk.cells
    go_enter Try.func14, Try.ntmps14
    go_wp2_with (go_at_call 35; (with_reducible refine (between_any _ _ _ _).mono ?_); rintro e w' ⟨rfl, rfl⟩; simp only [H1.out, H2.out])
    go_ret
    exact ⟨fr_ret hr.out.symm, by go_grown⟩
  · have hr := Lib.hid (show k.chk = 8 by simp only [Lk.chk, Lk.ok, Lk.rest, hs, h0, h1, h2, h3]; rfl)
    have E := eql_addr k.o0 k.o1 k.o2 k.o3 k.o4 k.o5 k.p0 k.p1 k.p2 k.p3 k.p4 k.p5 hB.o0 hB.o1 hB.o2 hB.o3 hB.o4 hB.o5 hB.p0 hB.p1 hB.p2 hB.p3 hB.p4 hB.p5
    rw [show addrB k.o0 k.o1 k.o2 k.o3 k.o4 k.o5 k.p0 k.p1 k.p2 k.p3 k.p4 k.p5 = k.same from rfl, h0] at E
    have H1 := Lib.hid h1
    clear h1
    have H2 := Lib.hid h2
    clear h2
    clear h0
    obtain ⟨o0, o1, o2, o3, o4, o5, p0, p1, p2, p3, p4, p5, st, id, ot, tr, du⟩ := k
    simp only at *
    subst hs
    unfold Lk.cells
    go_enter Try.func14, Try.ntmps14
    go_wp2_with (go_at_call 35; (with_reducible refine (between_any _ _ _ _).mono ?_); rintro e w' ⟨rfl, rfl⟩; simp only [H1.out, H2.out])
    go_ret
    exact ⟨fr_ret hr.out.symm, by go_grown⟩
  · have hr := Lib.hid (show k.chk = 8 by simp only [Lk.chk, Lk.ok, Lk.rest, hs, h0, h1, h2, h3, h4]; rfl)
    have E := eql_addr k.o0 k.o1 k.o2 k.o3 k.o4 k.o5 k.p0 k.p1 k.p2 k.p3 k.p4 k.p5 hB.o0 hB.o1 hB.o2 hB.o3 hB.o4 hB.o5 hB.p0 hB.p1 hB.p2 hB.p3 hB.p4 hB.p5
    rw [show addrB k.o0 k.o1 k.o2 k.o3 k.o4 k.o5 k.p0 k.p1 k.p2 k.p3 k.p4 k.p5 = k.same from rfl, h0] at E
    have H1 := Lib.hid h1
    clear h1
    have H2 := Lib.hid h2
    clear h2
    clear h0
    obtain ⟨o0, o1, o2, o3, o4, o5, p0, p1, p2, p3, p4, p5, st, id, ot, tr, du⟩ := k
    simp only at *
    subst hs
    unfold Lk.cells
    go_enter Try.func14, Try.ntmps14
    go_wp2_with (go_at_call 35; (with_reducible refine (between_any _ _ _ _).mono ?_); rintro e w' ⟨rfl, rfl⟩; simp only [H1.out, H2.out])
    go_ret
    exact ⟨fr_ret hr.out.symm, by go_grown⟩
  · have hr := Lib.hid (show k.chk = 0 by simp only [Lk.chk, Lk.ok, Lk.rest, hs, h0, h1, h2, h3, h4]; rfl)
    have E := eql_addr k.o0 k.o1 k.o2 k.o3 k.o4 k.o5 k.p0 k.p1 k.p2 k.p3 k.p4 k.p5 hB.o0 hB.o1 hB.o2 hB.o3 hB.o4 hB.o5 hB.p0 hB.p1 hB.p2 hB.p3 hB.p4 hB.p5
    rw [show addrB k.o0 k.o1 k.o2 k.o3 k.o4 k.o5 k.p0 k.p1 k.p2 k.p3 k.p4 k.p5 = k.same from rfl, h0] at E
    have H1 := Lib.hid h1
    clear h1
    have H2 := Lib.hid h2
    clear h2
    clear h0
    obtain ⟨o0, o1, o2, o3, o4, o5, p0, p1, p2, p3, p4, p5, st, id, ot, tr, du⟩ := k
    simp only at *
    subst hs
    unfold Lk.cells
    go_enter Try.func14, Try.ntmps14
    go_wp2_with (go_at_call 35; (with_reducible refine (between_any _ _ _ _).mono ?_); rintro e w' ⟨rfl, rfl⟩; simp only [H1.out, H2.out])
    go_ret
    exact ⟨fr_ret hr.out.symm, by go_grown⟩
set_option maxHeartbeats 2000000 in
theorem check_1 (k : Lk) (hB : k.By) (hs : k.st = 1) (w : World) : Calls Try.prog 14 #[.agg k.cells] w fun e w' => e = .returned (.int .i64 k.chk) ∧ Below w.heap.size w w' := by
  have hc : (k.same = true) ∨ (k.same = false ∧ btw k.id 1 65535 = false) ∨ (k.same = false ∧ btw k.id 1 65535 = true ∧ btw k.ot 0 0 = false) ∨ (k.same = false ∧ btw k.id 1 65535 = true ∧ btw k.ot 0 0 = true ∧ btw k.tr 1 3 = false) ∨ (k.same = false ∧ btw k.id 1 65535 = true ∧ btw k.ot 0 0 = true ∧ btw k.tr 1 3 = true ∧ btw k.du 1 1099511667776 = false) ∨ (k.same = false ∧ btw k.id 1 65535 = true ∧ btw k.ot 0 0 = true ∧ btw k.tr 1 3 = true ∧ btw k.du 1 1099511667776 = true) := by
    generalize k.same = x0
    generalize btw k.id 1 65535 = x1
    generalize btw k.ot 0 0 = x2
    generalize btw k.tr 1 3 = x3
    generalize btw k.du 1 1099511667776 = x4
    cases x0 <;> cases x1 <;> cases x2 <;> cases x3 <;> cases x4 <;> simp
  rcases hc with h0 | ⟨h0, h1⟩ | ⟨h0, h1, h2⟩ | ⟨h0, h1, h2, h3⟩ | ⟨h0, h1, h2, h3, h4⟩ | ⟨h0, h1, h2, h3, h4⟩
  · have hr := Lib.hid (show k.chk = 8 by simp only [Lk.chk, Lk.ok, Lk.rest, hs, h0]; rfl)
    have E := eql_addr k.o0 k.o1 k.o2 k.o3 k.o4 k.o5 k.p0 k.p1 k.p2 k.p3 k.p4 k.p5 hB.o0 hB.o1 hB.o2 hB.o3 hB.o4 hB.o5 hB.p0 hB.p1 hB.p2 hB.p3 hB.p4 hB.p5
    rw [show addrB k.o0 k.o1 k.o2 k.o3 k.o4 k.o5 k.p0 k.p1 k.p2 k.p3 k.p4 k.p5 = k.same from rfl, h0] at E
    clear h0
    obtain ⟨o0, o1, o2, o3, o4, o5, p0, p1, p2, p3, p4, p5, st, id, ot, tr, du⟩ := k
    simp only at *
    subst hs
    unfold Lk.cells
    go_enter Try.func14, Try.ntmps14
    go_wp2
    go_ret
    exact ⟨fr_ret hr.out.symm, by go_grown⟩
  · have hr := Lib.hid (show k.chk = 8 by simp only [Lk.chk, Lk.ok, Lk.rest, hs, h0, h1]; rfl)
    have E := eql_addr k.o0 k.o1 k.o2 k.o3 k.o4 k.o5 k.p0 k.p1 k.p2 k.p3 k.p4 k.p5 hB.o0 hB.o1 hB.o2 hB.o3 hB.o4 hB.o5 hB.p0 hB.p1 hB.p2 hB.p3 hB.p4 hB.p5
    rw [show addrB k.o0 k.o1 k.o2 k.o3 k.o4 k.o5 k.p0 k.p1 k.p2 k.p3 k.p4 k.p5 = k.same from rfl, h0] at E
    have H1 := Lib.hid h1
    clear h1
    clear h0
    obtain ⟨o0, o1, o2, o3, o4, o5, p0, p1, p2, p3, p4, p5, st, id, ot, tr, du⟩ := k
    simp only at *
    subst hs
    unfold Lk.cells
    go_enter Try.func14, Try.ntmps14
    go_wp2_with (go_at_call 35; (with_reducible refine (between_any _ _ _ _).mono ?_); rintro e w' ⟨rfl, rfl⟩; simp only [H1.out])
    go_ret
    exact ⟨fr_ret hr.out.symm, by go_grown⟩
  · have hr := Lib.hid (show k.chk = 8 by simp only [Lk.chk, Lk.ok, Lk.rest, hs, h0, h1, h2]; rfl)
    have E := eql_addr k.o0 k.o1 k.o2 k.o3 k.o4 k.o5 k.p0 k.p1 k.p2 k.p3 k.p4 k.p5 hB.o0 hB.o1 hB.o2 hB.o3 hB.o4 hB.o5 hB.p0 hB.p1 hB.p2 hB.p3 hB.p4 hB.p5
    rw [show addrB k.o0 k.o1 k.o2 k.o3 k.o4 k.o5 k.p0 k.p1 k.p2 k.p3 k.p4 k.p5 = k.same from rfl, h0] at E
    have H1 := Lib.hid h1
    clear h1
    have H2 := Lib.hid h2
    clear h2
    clear h0
    obtain ⟨o0, o1, o2, o3, o4, o5, p0, p1, p2, p3, p4, p5, st, id, ot, tr, du⟩ := k
    simp only at *
    subst hs
    unfold Lk.cells
    go_enter Try.func14, Try.ntmps14
    go_wp2_with (go_at_call 35; (with_reducible refine (between_any _ _ _ _).mono ?_); rintro e w' ⟨rfl, rfl⟩; simp only [H1.out, H2.out])
    go_ret
    exact ⟨fr_ret hr.out.symm, by go_grown⟩
  · have hr := Lib.hid (show k.chk = 8 by simp only [Lk.chk, Lk.ok, Lk.rest, hs, h0, h1, h2, h3]; rfl)
    have E := eql_addr k.o0 k.o1 k.o2 k.o3 k.o4 k.o5 k.p0 k.p1 k.p2 k.p3 k.p4 k.p5 hB.o0 hB.o1 hB.o2 hB.o3 hB.o4 hB.o5 hB.p0 hB.p1 hB.p2 hB.p3 hB.p4 hB.p5
    rw [show addrB k.o0 k.o1 k.o2 k.o3 k.o4 k.o5 k.p0 k.p1 k.p2 k.p3 k.p4 k.p5 = k.same from rfl, h0] at E
    have H1 := Lib.hid h1
    clear h1
    have H2 := Lib.hid h2
    clear h2
    have H3 := Lib.hid h3
    clear h3
    clear h0
    obtain ⟨o0, o1, o2, o3, o4, o5, p0, p1, p2, p3, p4, p5, st, id, ot, tr, du⟩ := k
    simp only at *
    subst hs
    unfold Lk.cells
    go_enter Try.func14, Try.ntmps14
    go_wp2_with (go_at_call 35; (with_reducible refine (between_any _ _ _ _).mono ?_); rintro e w' ⟨rfl, rfl⟩; simp only [H1.out, H2.out, H3.out])
    go_ret
    exact ⟨fr_ret hr.out.symm, by go_grown⟩
  · have hr := Lib.hid (show k.chk = 8 by simp only [Lk.chk, Lk.ok, Lk.rest, hs, h0, h1, h2, h3, h4]; rfl)
    have E := eql_addr k.o0 k.o1 k.o2 k.o3 k.o4 k.o5 k.p0 k.p1 k.p2 k.p3 k.p4 k.p5 hB.o0 hB.o1 hB.o2 hB.o3 hB.o4 hB.o5 hB.p0 hB.p1 hB.p2 hB.p3 hB.p4 hB.p5
    rw [show addrB k.o0 k.o1 k.o2 k.o3 k.o4 k.o5 k.p0 k.p1 k.p2 k.p3 k.p4 k.p5 = k.same from rfl, h0] at E
    have H1 := Lib.hid h1
    clear h1
    have H2 := Lib.hid h2
    clear h2
    have H3 := Lib.hid h3
    clear h3
    have H4 := Lib.hid h4
    clear h4
    clear h0
    obtain ⟨o0, o1, o2, o3, o4, o5, p0, p1, p2, p3, p4, p5, st, id, ot, tr, du⟩ := k
    simp only at *
    subst hs
    unfold Lk.cells
    go_enter Try.func14, Try.ntmps14
    go_wp2_with (go_at_call 35; (with_reducible refine (between_any _ _ _ _).mono ?_); rintro e w' ⟨rfl, rfl⟩; simp only [H1.out, H2.out, H3.out, H4.out])
    go_ret
    exact ⟨fr_ret hr.out.symm, by go_grown⟩
  · have hr := Lib.hid (show k.chk = 0 by simp only [Lk.chk, Lk.ok, Lk.rest, hs, h0, h1, h2, h3, h4]; rfl)
    have E := eql_addr k.o0 k.o1 k.o2 k.o3 k.o4 k.o5 k.p0 k.p1 k.p2 k.p3 k.p4 k.p5 hB.o0 hB.o1 hB.o2 hB.o3 hB.o4 hB.o5 hB.p0 hB.p1 hB.p2 hB.p3 hB.p4 hB.p5
    rw [show addrB k.o0 k.o1 k.o2 k.o3 k.o4 k.o5 k.p0 k.p1 k.p2 k.p3 k.p4 k.p5 = k.same from rfl, h0] at E
    have H1 := Lib.hid h1
    clear h1
    have H2 := Lib.hid h2
    clear h2
    have H3 := Lib.hid h3
    clear h3
    have H4 := Lib.hid h4
    clear h4
    clear h0
    obtain ⟨o0, o1, o2, o3, o4, o5, p0, p1, p2, p3, p4, p5, st, id, ot, tr, du⟩ := k
    simp only at *
    subst hs
    unfold Lk.cells
    go_enter Try.func14, Try.ntmps14
    go_wp2_with (go_at_call 35; (with_reducible refine (between_any _ _ _ _).mono ?_); rintro e w' ⟨rfl, rfl⟩; simp only [H1.out, H2.out, H3.out, H4.out])
    go_ret
    exact ⟨fr_ret hr.out.symm, by go_grown⟩
set_option maxHeartbeats 2000000 in
theorem check_2 (k : Lk) (hB : k.By) (hs : k.st = 2) (w : World) : Calls Try.prog 14 #[.agg k.cells] w fun e w' => e = .returned (.int .i64 k.chk) ∧ Below w.heap.size w w' := by
  have hc : (k.same = true) ∨ (k.same = false ∧ btw k.id 1 65535 = false) ∨ (k.same = false ∧ btw k.id 1 65535 = true ∧ btw k.ot 1 65535 = false) ∨ (k.same = false ∧ btw k.id 1 65535 = true ∧ btw k.ot 1 65535 = true ∧ btw k.tr 1 3 = false) ∨ (k.same = false ∧ btw k.id 1 65535 = true ∧ btw k.ot 1 65535 = true ∧ btw k.tr 1 3 = true ∧ btw k.du 1 1099511667776 = false) ∨ (k.same = false ∧ btw k.id 1 65535 = true ∧ btw k.ot 1 65535 = true ∧ btw k.tr 1 3 = true ∧ btw k.du 1 1099511667776 = true) := by
    generalize k.same = x0
    generalize btw k.id 1 65535 = x1
    generalize btw k.ot 1 65535 = x2
    generalize btw k.tr 1 3 = x3
    generalize btw k.du 1 1099511667776 = x4
    cases x0 <;> cases x1 <;> cases x2 <;> cases x3 <;> cases x4 <;> simp
  rcases hc with h0 | ⟨h0, h1⟩ | ⟨h0, h1, h2⟩ | ⟨h0, h1, h2, h3⟩ | ⟨h0, h1, h2, h3, h4⟩ | ⟨h0, h1, h2, h3, h4⟩
  · have hr := Lib.hid (show k.chk = 8 by simp only [Lk.chk, Lk.ok, Lk.rest, hs, h0]; rfl)
    have E := eql_addr k.o0 k.o1 k.o2 k.o3 k.o4 k.o5 k.p0 k.p1 k.p2 k.p3 k.p4 k.p5 hB.o0 hB.o1 hB.o2 hB.o3 hB.o4 hB.o5 hB.p0 hB.p1 hB.p2 hB.p3 hB.p4 hB.p5
    rw [show addrB k.o0 k.o1 k.o2 k.o3 k.o4 k.o5 k.p0 k.p1 k.p2 k.p3 k.p4 k.p5 = k.same from rfl, h0] at E
    clear h0
    obtain ⟨o0, o1, o2, o3, o4, o5, p0, p1, p2, p3, p4, p5, st, id, ot, tr, du⟩ := k
    simp only at *
    subst hs
    unfold Lk.cells
    go_enter Try.func14, Try.ntmps14
    go_wp2
    go_ret
    exact ⟨fr_ret hr.out.symm, by go_grown⟩
  · have hr := Lib.hid (show k.chk = 8 by simp only [Lk.chk, Lk.ok, Lk.rest, hs, h0, h1]; rfl)
    have E := eql_addr k.o0 k.o1 k.o2 k.o3 k.o4 k.o5 k.p0 k.p1 k.p2 k.p3 k.p4 k.p5 hB.o0 hB.o1 hB.o2 hB.o3 hB.o4 hB.o5 hB.p0 hB.p1 hB.p2 hB.p3 hB.p4 hB.p5
    rw [show addrB k.o0 k.o1 k.o2 k.o3 k.o4 k.o5 k.p0 k.p1 k.p2 k.p3 k.p4 k.p5 = k.same from rfl, h0] at E
    have H1 := Lib.hid h1
    clear h1
    clear h0
    obtain ⟨o0, o1, o2, o3, o4, o5, p0, p1, p2, p3, p4, p5, st, id, ot, tr, du⟩ := k
    simp only at *
    subst hs
    unfold Lk.cells
    go_enter Try.func14, Try.ntmps14
    go_wp2_with (go_at_call 35; (with_reducible refine (between_any _ _ _ _).mono ?_); rintro e w' ⟨rfl, rfl⟩; simp only [H1.out])
    go_ret
    exact ⟨fr_ret hr.out.symm, by go_grown⟩
  · have hr := Lib.hid (show k.chk = 8 by simp only [Lk.chk, Lk.ok, Lk.rest, hs, h0, h1, h2]; rfl)
    have E := eql_addr k.o0 k.o1 k.o2 k.o3 k.o4 k.o5 k.p0 k.p1 k.p2 k.p3 k.p4 k.p5 hB.o0 hB.o1 hB.o2 hB.o3 hB.o4 hB.o5 hB.p0 hB.p1 hB.p2 hB.p3 hB.p4 hB.p5
    rw [show addrB k.o0 k.o1 k.o2 k.o3 k.o4 k.o5 k.p0 k.p1 k.p2 k.p3 k.p4 k.p5 = k.same from rfl, h0] at E
    have H1 := Lib.hid h1
    clear h1
    have H2 := Lib.hid h2
    clear h2
    clear h0
    obtain ⟨o0, o1, o2, o3, o4, o5, p0, p1, p2, p3, p4, p5, st, id, ot, tr, du⟩ := k
    simp only at *
    subst hs
    unfold Lk.cells
    go_enter Try.func14, Try.ntmps14
    go_wp2_with (go_at_call 35; (with_reducible refine (between_any _ _ _ _).mono ?_); rintro e w' ⟨rfl, rfl⟩; simp only [H1.out, H2.out])
    go_ret
    exact ⟨fr_ret hr.out.symm, by go_grown⟩
  · have hr := Lib.hid (show k.chk = 8 by simp only [Lk.chk, Lk.ok, Lk.rest, hs, h0, h1, h2, h3]; rfl)
    have E := eql_addr k.o0 k.o1 k.o2 k.o3 k.o4 k.o5 k.p0 k.p1 k.p2 k.p3 k.p4 k.p5 hB.o0 hB.o1 hB.o2 hB.o3 hB.o4 hB.o5 hB.p0 hB.p1 hB.p2 hB.p3 hB.p4 hB.p5
    rw [show addrB k.o0 k.o1 k.o2 k.o3 k.o4 k.o5 k.p0 k.p1 k.p2 k.p3 k.p4 k.p5 = k.same from rfl, h0] at E
    have H1 := Lib.hid h1
    clear h1
    have H2 := Lib.hid h2
    clear h2
    have H3 := Lib.hid h3
    clear h3
    clear h0
    obtain ⟨o0, o1, o2, o3, o4, o5, p0, p1, p2, p3, p4, p5, st, id, ot, tr, du⟩ := k
    simp only at *
    subst hs
    unfold Lk.cells
    go_enter Try.func14, Try.ntmps14
    go_wp2_with (go_at_call 35; (with_reducible refine (between_any _ _ _ _).mono ?_); rintro e w' ⟨rfl, rfl⟩; simp only [H1.out, H2.out, H3.out])
    go_ret
    exact ⟨fr_ret hr.out.symm, by go_grown⟩
  · have hr := Lib.hid (show k.chk = 8 by simp only [Lk.chk, Lk.ok, Lk.rest, hs, h0, h1, h2, h3, h4]; rfl)
    have E := eql_addr k.o0 k.o1 k.o2 k.o3 k.o4 k.o5 k.p0 k.p1 k.p2 k.p3 k.p4 k.p5 hB.o0 hB.o1 hB.o2 hB.o3 hB.o4 hB.o5 hB.p0 hB.p1 hB.p2 hB.p3 hB.p4 hB.p5
    rw [show addrB k.o0 k.o1 k.o2 k.o3 k.o4 k.o5 k.p0 k.p1 k.p2 k.p3 k.p4 k.p5 = k.same from rfl, h0] at E
    have H1 := Lib.hid h1
    clear h1
    have H2 := Lib.hid h2
    clear h2
    have H3 := Lib.hid h3
    clear h3
    have H4 := Lib.hid h4
    clear h4
    clear h0
    obtain ⟨o0, o1, o2, o3, o4, o5, p0, p1, p2, p3, p4, p5, st, id, ot, tr, du⟩ := k
    simp only at *
    subst hs
    unfold Lk.cells
    go_enter Try.func14, Try.ntmps14
    go_wp2_with (go_at_call 35; (with_reducible refine (between_any _ _ _ _).mono ?_); rintro e w' ⟨rfl, rfl⟩; simp only [H1.out, H2.out, H3.out, H4.out])
    go_ret
    exact ⟨fr_ret hr.out.symm, by go_grown⟩
  · have hr := Lib.hid (show k.chk = 0 by simp only [Lk.chk, Lk.ok, Lk.rest, hs, h0, h1, h2, h3, h4]; rfl)
    have E := eql_addr k.o0 k.o1 k.o2 k.o3 k.o4 k.o5 k.p0 k.p1 k.p2 k.p3 k.p4 k.p5 hB.o0 hB.o1 hB.o2 hB.o3 hB.o4 hB.o5 hB.p0 hB.p1 hB.p2 hB.p3 hB.p4 hB.p5
    rw [show addrB k.o0 k.o1 k.o2 k.o3 k.o4 k.o5 k.p0 k.p1 k.p2 k.p3 k.p4 k.p5 = k.same from rfl, h0] at E
    have H1 := Lib.hid h1
    clear h1
    have H2 := Lib.hid h2
    clear h2
    have H3 := Lib.hid h3
    clear h3
    have H4 := Lib.hid h4
    clear h4
    clear h0
    obtain ⟨o0, o1, o2, o3, o4, o5, p0, p1, p2, p3, p4, p5, st, id, ot, tr, du⟩ := k
    simp only at *
    subst hs
    unfold Lk.cells
    go_enter Try.func14, Try.ntmps14
    go_wp2_with (go_at_call 35; (with_reducible refine (between_any _ _ _ _).mono ?_); rintro e w' ⟨rfl, rfl⟩; simp only [H1.out, H2.out, H3.out, H4.out])
    go_ret
    exact ⟨fr_ret hr.out.symm, by go_grown⟩
set_option maxHeartbeats 2000000 in
theorem check_3 (k : Lk) (hB : k.By) (hs : k.st = 3) (w : World) : Calls Try.prog 14 #[.agg k.cells] w fun e w' => e = .returned (.int .i64 k.chk) ∧ Below w.heap.size w w' := by
  have hc : (k.same = true) ∨ (k.same = false ∧ btw k.id 1 65535 = false) ∨ (k.same = false ∧ btw k.id 1 65535 = true ∧ btw k.ot 1 65535 = false) ∨ (k.same = false ∧ btw k.id 1 65535 = true ∧ btw k.ot 1 65535 = true ∧ btw k.tr 1 3 = false) ∨ (k.same = false ∧ btw k.id 1 65535 = true ∧ btw k.ot 1 65535 = true ∧ btw k.tr 1 3 = true ∧ btw k.du 1 1099511667776 = false) ∨ (k.same = false ∧ btw k.id 1 65535 = true ∧ btw k.ot 1 65535 = true ∧ btw k.tr 1 3 = true ∧ btw k.du 1 1099511667776 = true) := by
    generalize k.same = x0
    generalize btw k.id 1 65535 = x1
    generalize btw k.ot 1 65535 = x2
    generalize btw k.tr 1 3 = x3
    generalize btw k.du 1 1099511667776 = x4
    cases x0 <;> cases x1 <;> cases x2 <;> cases x3 <;> cases x4 <;> simp
  rcases hc with h0 | ⟨h0, h1⟩ | ⟨h0, h1, h2⟩ | ⟨h0, h1, h2, h3⟩ | ⟨h0, h1, h2, h3, h4⟩ | ⟨h0, h1, h2, h3, h4⟩
  · have hr := Lib.hid (show k.chk = 8 by simp only [Lk.chk, Lk.ok, Lk.rest, hs, h0]; rfl)
    have E := eql_addr k.o0 k.o1 k.o2 k.o3 k.o4 k.o5 k.p0 k.p1 k.p2 k.p3 k.p4 k.p5 hB.o0 hB.o1 hB.o2 hB.o3 hB.o4 hB.o5 hB.p0 hB.p1 hB.p2 hB.p3 hB.p4 hB.p5
    rw [show addrB k.o0 k.o1 k.o2 k.o3 k.o4 k.o5 k.p0 k.p1 k.p2 k.p3 k.p4 k.p5 = k.same from rfl, h0] at E
    clear h0
    obtain ⟨o0, o1, o2, o3, o4, o5, p0, p1, p2, p3, p4, p5, st, id, ot, tr, du⟩ := k
    simp only at *
    subst hs
    unfold Lk.cells
    go_enter Try.func14, Try.ntmps14
    go_wp2
    go_ret
    exact ⟨fr_ret hr.out.symm, by go_grown⟩
  · have hr := Lib.hid (show k.chk = 8 by simp only [Lk.chk, Lk.ok, Lk.rest, hs, h0, h1]; rfl)
    have E := eql_addr k.o0 k.o1 k.o2 k.o3 k.o4 k.o5 k.p0 k.p1 k.p2 k.p3 k.p4 k.p5 hB.o0 hB.o1 hB.o2 hB.o3 hB.o4 hB.o5 hB.p0 hB.p1 hB.p2 hB.p3 hB.p4 hB.p5
    rw [show addrB k.o0 k.o1 k.o2 k.o3 k.o4 k.o5 k.p0 k.p1 k.p2 k.p3 k.p4 k.p5 = k.same from rfl, h0] at E
    have H1 := Lib.hid h1
    clear h1
    clear h0
    obtain ⟨o0, o1, o2, o3, o4, o5, p0, p1, p2, p3, p4, p5, st, id, ot, tr, du⟩ := k
    simp only at *
    subst hs
    unfold Lk.cells
    go_enter Try.func14, Try.ntmps14
    go_wp2_with (go_at_call 35; (with_reducible refine (between_any _ _ _ _).mono ?_); rintro e w' ⟨rfl, rfl⟩; simp only [H1.out])
    go_ret
    exact ⟨fr_ret hr.out.symm, by go_grown⟩
  · have hr := Lib.hid (show k.chk = 8 by simp only [Lk.chk, Lk.ok, Lk.rest, hs, h0, h1, h2]; rfl)
    have E := eql_addr k.o0 k.o1 k.o2 k.o3 k.o4 k.o5 k.p0 k.p1 k.p2 k.p3 k.p4 k.p5 hB.o0 hB.o1 hB.o2 hB.o3 hB.o4 hB.o5 hB.p0 hB.p1 hB.p2 hB.p3 hB.p4 hB.p5
    rw [show addrB k.o0 k.o1 k.o2 k.o3 k.o4 k.o5 k.p0 k.p1 k.p2 k.p3 k.p4 k.p5 = k.same from rfl, h0] at E
    have H1 := Lib.hid h1
    clear h1
    have H2 := Lib.hid h2
    clear h2
    clear h0
    obtain ⟨o0, o1, o2, o3, o4, o5, p0, p1, p2, p3, p4, p5, st, id, ot, tr, du⟩ := k
    simp only at *
    subst hs
    unfold Lk.cells
    go_enter Try.func14, Try.ntmps14
    go_wp2_with (go_at_call 35; (with_reducible refine (between_any _ _ _ _).mono ?_); rintro e w' ⟨rfl, rfl⟩; simp only [H1.out, H2.out])
    go_ret
    exact ⟨fr_ret hr.out.symm, by go_grown⟩
  · have hr := Lib.hid (show k.chk = 8 by simp only [Lk.chk, Lk.ok, Lk.rest, hs, h0, h1, h2, h3]; rfl)
    have E := eql_addr k.o0 k.o1 k.o2 k.o3 k.o4 k.o5 k.p0 k.p1 k.p2 k.p3 k.p4 k.p5 hB.o0 hB.o1 hB.o2 hB.o3 hB.o4 hB.o5 hB.p0 hB.p1 hB.p2 hB.p3 hB.p4 hB.p5
    rw [show addrB k.o0 k.o1 k.o2 k.o3 k.o4 k.o5 k.p0 k.p1 k.p2 k.p3 k.p4 k.p5 = k.same from rfl, h0] at E
    have H1 := Lib.hid h1
    clear h1
    have H2 := Lib.hid h2
    clear h2
    have H3 := Lib.hid h3
    clear h3
    clear h0
    obtain ⟨o0, o1, o2, o3, o4, o5, p0, p1, p2, p3, p4, p5, st, id, ot, tr, du⟩ := k
    simp only at *
    subst hs
    unfold Lk.cells
    go_enter Try.func14, Try.ntmps14
    go_wp2_with (go_at_call 35; (with_reducible refine (between_any _ _ _ _).mono ?_); rintro e w' ⟨rfl, rfl⟩; simp only [H1.out, H2.out, H3.out])
    go_ret
    exact ⟨fr_ret hr.out.symm, by go_grown⟩
  · have hr := Lib.hid (show k.chk = 8 by simp only [Lk.chk, Lk.ok, Lk.rest, hs, h0, h1, h2, h3, h4]; rfl)
    have E := eql_addr k.o0 k.o1 k.o2 k.o3 k.o4 k.o5 k.p0 k.p1 k.p2 k.p3 k.p4 k.p5 hB.o0 hB.o1 hB.o2 hB.o3 hB.o4 hB.o5 hB.p0 hB.p1 hB.p2 hB.p3 hB.p4 hB.p5
    rw [show addrB k.o0 k.o1 k.o2 k.o3 k.o4 k.o5 k.p0 k.p1 k.p2 k.p3 k.p4 k.p5 = k.same from rfl, h0] at E
    have H1 := Lib.hid h1
    clear h1
    have H2 := Lib.hid h2
    clear h2
    have H3 := Lib.hid h3
    clear h3
    have H4 := Lib.hid h4
    clear h4
    clear h0
    obtain ⟨o0, o1, o2, o3, o4, o5, p0, p1, p2, p3, p4, p5, st, id, ot, tr, du⟩ := k
    simp only at *
    subst hs
    unfold Lk.cells
    go_enter Try.func14, Try.ntmps14
    go_wp2_with (go_at_call 35; (with_reducible refine (between_any _ _ _ _).mono ?_); rintro e w' ⟨rfl, rfl⟩; simp only [H1.out, H2.out, H3.out, H4.out])
    go_ret
    exact ⟨fr_ret hr.out.symm, by go_grown⟩
  · have hr := Lib.hid (show k.chk = 0 by simp only [Lk.chk, Lk.ok, Lk.rest, hs, h0, h1, h2, h3, h4]; rfl)
    have E := eql_addr k.o0 k.o1 k.o2 k.o3 k.o4 k.o5 k.p0 k.p1 k.p2 k.p3 k.p4 k.p5 hB.o0 hB.o1 hB.o2 hB.o3 hB.o4 hB.o5 hB.p0 hB.p1 hB.p2 hB.p3 hB.p4 hB.p5
    rw [show addrB k.o0 k.o1 k.o2 k.o3 k.o4 k.o5 k.p0 k.p1 k.p2 k.p3 k.p4 k.p5 = k.same from rfl, h0] at E
    have H1 := Lib.hid h1
    clear h1
    have H2 := Lib.hid h2
    clear h2
    have H3 := Lib.hid h3
    clear h3
    have H4 := Lib.hid h4
    clear h4
    clear h0
    obtain ⟨o0, o1, o2, o3, o4, o5, p0, p1, p2, p3, p4, p5, st, id, ot, tr, du⟩ := k
    simp only at *
    subst hs
    unfold Lk.cells
    go_enter Try.func14, Try.ntmps14
    go_wp2_with (go_at_call 35; (with_reducible refine (between_any _ _ _ _).mono ?_); rintro e w' ⟨rfl, rfl⟩; simp only [H1.out, H2.out, H3.out, H4.out])
    go_ret
    exact ⟨fr_ret hr.out.symm, by go_grown⟩
set_option maxHeartbeats 2000000 in
theorem check_4 (k : Lk) (hB : k.By) (hs : k.st = 4) (w : World) : Calls Try.prog 14 #[.agg k.cells] w fun e w' => e = .returned (.int .i64 k.chk) ∧ Below w.heap.size w w' := by
  have hc : (k.same = true) ∨ (k.same = false ∧ btw k.id 1 65535 = false) ∨ (k.same = false ∧ btw k.id 1 65535 = true ∧ btw k.ot 1 65535 = false) ∨ (k.same = false ∧ btw k.id 1 65535 = true ∧ btw k.ot 1 65535 = true ∧ (k.tr == 0) = false) ∨ (k.same = false ∧ btw k.id 1 65535 = true ∧ btw k.ot 1 65535 = true ∧ (k.tr == 0) = true ∧ (k.du == 0) = false) ∨ (k.same = false ∧ btw k.id 1 65535 = true ∧ btw k.ot 1 65535 = true ∧ (k.tr == 0) = true ∧ (k.du == 0) = true) := by
    generalize k.same = x0
    generalize btw k.id 1 65535 = x1
    generalize btw k.ot 1 65535 = x2
    generalize (k.tr == 0) = x3
    generalize (k.du == 0) = x4
    cases x0 <;> cases x1 <;> cases x2 <;> cases x3 <;> cases x4 <;> simp
  rcases hc with h0 | ⟨h0, h1⟩ | ⟨h0, h1, h2⟩ | ⟨h0, h1, h2, h3⟩ | ⟨h0, h1, h2, h3, h4⟩ | ⟨h0, h1, h2, h3, h4⟩
  · have hr := Lib.hid (show k.chk = 8 by simp only [Lk.chk, Lk.ok, Lk.rest, hs, h0]; rfl)
    have E := eql_addr k.o0 k.o1 k.o2 k.o3 k.o4 k.o5 k.p0 k.p1 k.p2 k.p3 k.p4 k.p5 hB.o0 hB.o1 hB.o2 hB.o3 hB.o4 hB.o5 hB.p0 hB.p1 hB.p2 hB.p3 hB.p4 hB.p5
    rw [show addrB k.o0 k.o1 k.o2 k.o3 k.o4 k.o5 k.p0 k.p1 k.p2 k.p3 k.p4 k.p5 = k.same from rfl, h0] at E
    clear h0
    obtain ⟨o0, o1, o2, o3, o4, o5, p0, p1, p2, p3, p4, p5, st, id, ot, tr, du⟩ := k
    simp only at *
    subst hs
    unfold Lk.cells
    go_enter Try.func14, Try.ntmps14
    go_wp2
    go_ret
    exact ⟨fr_ret hr.out.symm, by go_grown⟩
  · have hr := Lib.hid (show k.chk = 8 by simp only [Lk.chk, Lk.ok, Lk.rest, hs, h0, h1]; rfl)
    have E := eql_addr k.o0 k.o1 k.o2 k.o3 k.o4 k.o5 k.p0 k.p1 k.p2 k.p3 k.p4 k.p5 hB.o0 hB.o1 hB.o2 hB.o3 hB.o4 hB.o5 hB.p0 hB.p1 hB.p2 hB.p3 hB.p4 hB.p5
    rw [show addrB k.o0 k.o1 k.o2 k.o3 k.o4 k.o5 k.p0 k.p1 k.p2 k.p3 k.p4 k.p5 = k.same from rfl, h0] at E
    have H1 := Lib.hid h1
    clear h1
    clear h0
    obtain ⟨o0, o1, o2, o3, o4, o5, p0, p1, p2, p3, p4, p5, st, id, ot, tr, du⟩ := k
    simp only at *
    subst hs
    unfold Lk.cells
    go_enter Try.func14, Try.ntmps14
    go_wp2_with (go_at_call 35; (with_reducible refine (between_any _ _ _ _).mono ?_); rintro e w' ⟨rfl, rfl⟩; simp only [H1.out])
    go_ret
    exact ⟨fr_ret hr.out.symm, by go_grown⟩
  · have hr := Lib.hid (show k.chk = 8 by simp only [Lk.chk, Lk.ok, Lk.rest, hs, h0, h1, h2]; rfl)
    have E := eql_addr k.o0 k.o1 k.o2 k.o3 k.o4 k.o5 k.p0 k.p1 k.p2 k.p3 k.p4 k.p5 hB.o0 hB.o1 hB.o2 hB.o3 hB.o4 hB.o5 hB.p0 hB.p1 hB.p2 hB.p3 hB.p4 hB.p5
    rw [show addrB k.o0 k.o1 k.o2 k.o3 k.o4 k.o5 k.p0 k.p1 k.p2 k.p3 k.p4 k.p5 = k.same from rfl, h0] at E
    have H1 := Lib.hid h1
    clear h1
    have H2 := Lib.hid h2
    clear h2
    clear h0
    obtain ⟨o0, o1, o2, o3, o4, o5, p0, p1, p2, p3, p4, p5, st, id, ot, tr, du⟩ := k
    simp only at *
    subst hs
    unfold Lk.cells
    go_enter Try.func14, Try.ntmps14
    go_wp2_with (go_at_call 35; (with_reducible refine (between_any _ _ _ _).mono ?_); rintro e w' ⟨rfl, rfl⟩; simp only [H1.out, H2.out])
    go_ret
    exact ⟨fr_ret hr.out.symm, by go_grown⟩
  · have hr := Lib.hid (show k.chk = 8 by simp only [Lk.chk, Lk.ok, Lk.rest, hs, h0, h1, h2, h3]; rfl)
    have E := eql_addr k.o0 k.o1 k.o2 k.o3 k.o4 k.o5 k.p0 k.p1 k.p2 k.p3 k.p4 k.p5 hB.o0 hB.o1 hB.o2 hB.o3 hB.o4 hB.o5 hB.p0 hB.p1 hB.p2 hB.p3 hB.p4 hB.p5
    rw [show addrB k.o0 k.o1 k.o2 k.o3 k.o4 k.o5 k.p0 k.p1 k.p2 k.p3 k.p4 k.p5 = k.same from rfl, h0] at E
    have H1 := Lib.hid h1
    clear h1
    have H2 := Lib.hid h2
    clear h2
    clear h0
    obtain ⟨o0, o1, o2, o3, o4, o5, p0, p1, p2, p3, p4, p5, st, id, ot, tr, du⟩ := k
    simp only at *
    subst hs
    unfold Lk.cells
    go_enter Try.func14, Try.ntmps14
    go_wp2_with (go_at_call 35; (with_reducible refine (between_any _ _ _ _).mono ?_); rintro e w' ⟨rfl, rfl⟩; simp only [H1.out, H2.out])
    go_ret
    exact ⟨fr_ret hr.out.symm, by go_grown⟩
  · have hr := Lib.hid (show k.chk = 8 by simp only [Lk.chk, Lk.ok, Lk.rest, hs, h0, h1, h2, h3, h4]; rfl)
    have E := eql_addr k.o0 k.o1 k.o2 k.o3 k.o4 k.o5 k.p0 k.p1 k.p2 k.p3 k.p4 k.p5 hB.o0 hB.o1 hB.o2 hB.o3 hB.o4 hB.o5 hB.p0 hB.p1 hB.p2 hB.p3 hB.p4 hB.p5
    rw [show addrB k.o0 k.o1 k.o2 k.o3 k.o4 k.o5 k.p0 k.p1 k.p2 k.p3 k.p4 k.p5 = k.same from rfl, h0] at E
    have H1 := Lib.hid h1
    clear h1
    have H2 := Lib.hid h2
    clear h2
    clear h0
    obtain ⟨o0, o1, o2, o3, o4, o5, p0, p1, p2, p3, p4, p5, st, id, ot, tr, du⟩ := k
    simp only at *
    subst hs
    unfold Lk.cells
    go_enter Try.func14, Try.ntmps14
    go_wp2_with (go_at_call 35; (with_reducible refine (between_any _ _ _ _).mono ?_); rintro e w' ⟨rfl, rfl⟩; simp only [H1.out, H2.out])
    go_ret
    exact ⟨fr_ret hr.out.symm, by go_grown⟩
  · have hr := Lib.hid (show k.chk = 0 by simp only [Lk.chk, Lk.ok, Lk.rest, hs, h0, h1, h2, h3, h4]; rfl)
    have E := eql_addr k.o0 k.o1 k.o2 k.o3 k.o4 k.o5 k.p0 k.p1 k.p2 k.p3 k.p4 k.p5 hB.o0 hB.o1 hB.o2 hB.o3 hB.o4 hB.o5 hB.p0 hB.p1 hB.p2 hB.p3 hB.p4 hB.p5
    rw [show addrB k.o0 k.o1 k.o2 k.o3 k.o4 k.o5 k.p0 k.p1 k.p2 k.p3 k.p4 k.p5 = k.same from rfl, h0] at E
    have H1 := Lib.hid h1
    clear h1
    have H2 := Lib.hid h2
    clear h2
    clear h0
    obtain ⟨o0, o1, o2, o3, o4, o5, p0, p1, p2, p3, p4, p5, st, id, ot, tr, du⟩ := k
    simp only at *
    subst hs
    unfold Lk.cells
    go_enter Try.func14, Try.ntmps14
    go_wp2_with (go_at_call 35; (with_reducible refine (between_any _ _ _ _).mono ?_); rintro e w' ⟨rfl, rfl⟩; simp only [H1.out, H2.out])
    go_ret
    exact ⟨fr_ret hr.out.symm, by go_grown⟩
set_option maxHeartbeats 2000000 in
theorem check_5 (k : Lk) (hB : k.By) (hs : k.st = 5) (w : World) : Calls Try.prog 14 #[.agg k.cells] w fun e w' => e = .returned (.int .i64 k.chk) ∧ Below w.heap.size w w' := by
  have hc : (k.same = true) ∨ (k.same = false ∧ btw k.id 1 65535 = false) ∨ (k.same = false ∧ btw k.id 1 65535 = true ∧ btw k.ot 0 65535 = false) ∨ (k.same = false ∧ btw k.id 1 65535 = true ∧ btw k.ot 0 65535 = true ∧ (k.tr == 0) = false) ∨ (k.same = false ∧ btw k.id 1 65535 = true ∧ btw k.ot 0 65535 = true ∧ (k.tr == 0) = true ∧ btw k.du 1 1099511667776 = false) ∨ (k.same = false ∧ btw k.id 1 65535 = true ∧ btw k.ot 0 65535 = true ∧ (k.tr == 0) = true ∧ btw k.du 1 1099511667776 = true) := by
    generalize k.same = x0
    generalize btw k.id 1 65535 = x1
    generalize btw k.ot 0 65535 = x2
    generalize (k.tr == 0) = x3
    generalize btw k.du 1 1099511667776 = x4
    cases x0 <;> cases x1 <;> cases x2 <;> cases x3 <;> cases x4 <;> simp
  rcases hc with h0 | ⟨h0, h1⟩ | ⟨h0, h1, h2⟩ | ⟨h0, h1, h2, h3⟩ | ⟨h0, h1, h2, h3, h4⟩ | ⟨h0, h1, h2, h3, h4⟩
  · have hr := Lib.hid (show k.chk = 8 by simp only [Lk.chk, Lk.ok, Lk.rest, hs, h0]; rfl)
    have E := eql_addr k.o0 k.o1 k.o2 k.o3 k.o4 k.o5 k.p0 k.p1 k.p2 k.p3 k.p4 k.p5 hB.o0 hB.o1 hB.o2 hB.o3 hB.o4 hB.o5 hB.p0 hB.p1 hB.p2 hB.p3 hB.p4 hB.p5
    rw [show addrB k.o0 k.o1 k.o2 k.o3 k.o4 k.o5 k.p0 k.p1 k.p2 k.p3 k.p4 k.p5 = k.same from rfl, h0] at E
    clear h0
    obtain ⟨o0, o1, o2, o3, o4, o5, p0, p1, p2, p3, p4, p5, st, id, ot, tr, du⟩ := k
    simp only at *
    subst hs
    unfold Lk.cells
    go_enter Try.func14, Try.ntmps14
    go_wp2
    go_ret
    exact ⟨fr_ret hr.out.symm, by go_grown⟩
  · have hr := Lib.hid (show k.chk = 8 by simp only [Lk.chk, Lk.ok, Lk.rest, hs, h0, h1]; rfl)
    have E := eql_addr k.o0 k.o1 k.o2 k.o3 k.o4 k.o5 k.p0 k.p1 k.p2 k.p3 k.p4 k.p5 hB.o0 hB.o1 hB.o2 hB.o3 hB.o4 hB.o5 hB.p0 hB.p1 hB.p2 hB.p3 hB.p4 hB.p5
    rw [show addrB k.o0 k.o1 k.o2 k.o3 k.o4 k.o5 k.p0 k.p1 k.p2 k.p3 k.p4 k.p5 = k.same from rfl, h0] at E
    have H1 := Lib.hid h1
    clear h1
    clear h0
    obtain ⟨o0, o1, o2, o3, o4, o5, p0, p1, p2, p3, p4, p5, st, id, ot, tr, du⟩ := k
    simp only at *
    subst hs
    unfold Lk.cells
    go_enter Try.func14, Try.ntmps14
    go_wp2_with (go_at_call 35; (with_reducible refine (between_any _ _ _ _).mono ?_); rintro e w' ⟨rfl, rfl⟩; simp only [H1.out])
    go_ret
    exact ⟨fr_ret hr.out.symm, by go_grown⟩
  · have hr := Lib.hid (show k.chk = 8 by simp only [Lk.chk, Lk.ok, Lk.rest, hs, h0, h1, h2]; rfl)
    have E := eql_addr k.o0 k.o1 k.o2 k.o3 k.o4 k.o5 k.p0 k.p1 k.p2 k.p3 k.p4 k.p5 hB.o0 hB.o1 hB.o2 hB.o3 hB.o4 hB.o5 hB.p0 hB.p1 hB.p2 hB.p3 hB.p4 hB.p5
    rw [show addrB k.o0 k.o1 k.o2 k.o3 k.o4 k.o5 k.p0 k.p1 k.p2 k.p3 k.p4 k.p5 = k.same from rfl, h0] at E
    have H1 := Lib.hid h1
    clear h1
    have H2 := Lib.hid h2
    clear h2
    clear h0
    obtain ⟨o0, o1, o2, o3, o4, o5, p0, p1, p2, p3, p4, p5, st, id, ot, tr, du⟩ := k
    simp only at *
    subst hs
    unfold Lk.cells
    go_enter Try.func14, Try.ntmps14
    go_wp2_with (go_at_call 35; (with_reducible refine (between_any _ _ _ _).mono ?_); rintro e w' ⟨rfl, rfl⟩; simp only [H1.out, H2.out])
    go_ret
    exact ⟨fr_ret hr.out.symm, by go_grown⟩
  · have hr := Lib.hid (show k.chk = 8 by simp only [Lk.chk, Lk.ok, Lk.rest, hs, h0, h1, h2, h3]; rfl)
    have E := eql_addr k.o0 k.o1 k.o2 k.o3 k.o4 k.o5 k.p0 k.p1 k.p2 k.p3 k.p4 k.p5 hB.o0 hB.o1 hB.o2 hB.o3 hB.o4 hB.o5 hB.p0 hB.p1 hB.p2 hB.p3 hB.p4 hB.p5
    rw [show addrB k.o0 k.o1 k.o2 k.o3 k.o4 k.o5 k.p0 k.p1 k.p2 k.p3 k.p4 k.p5 = k.same from rfl, h0] at E
    have H1 := Lib.hid h1
    clear h1
    have H2 := Lib.hid h2
    clear h2
    clear h0
    obtain ⟨o0, o1, o2, o3, o4, o5, p0, p1, p2, p3, p4, p5, st, id, ot, tr, du⟩ := k
    simp only at *
    subst hs
    unfold Lk.cells
    go_enter Try.func14, Try.ntmps14
    go_wp2_with (go_at_call 35; (with_reducible refine (between_any _ _ _ _).mono ?_); rintro e w' ⟨rfl, rfl⟩; simp only [H1.out, H2.out])
    go_ret
    exact ⟨fr_ret hr.out.symm, by go_grown⟩
  · have hr := Lib.hid (show k.chk = 8 by simp only [Lk.chk, Lk.ok, Lk.rest, hs, h0, h1, h2, h3, h4]; rfl)
    have E := eql_addr k.o0 k.o1 k.o2 k.o3 k.o4 k.o5 k.p0 k.p1 k.p2 k.p3 k.p4 k.p5 hB.o0 hB.o1 hB.o2 hB.o3 hB.o4 hB.o5 hB.p0 hB.p1 hB.p2 hB.p3 hB.p4 hB.p5
    rw [show addrB k.o0 k.o1 k.o2 k.o3 k.o4 k.o5 k.p0 k.p1 k.p2 k.p3 k.p4 k.p5 = k.same from rfl, h0] at E
    have H1 := Lib.hid h1
    clear h1
    have H2 := Lib.hid h2
    clear h2
    have H4 := Lib.hid h4
    clear h4
    clear h0
    obtain ⟨o0, o1, o2, o3, o4, o5, p0, p1, p2, p3, p4, p5, st, id, ot, tr, du⟩ := k
    simp only at *
    subst hs
    unfold Lk.cells
    go_enter Try.func14, Try.ntmps14
    go_wp2_with (go_at_call 35; (with_reducible refine (between_any _ _ _ _).mono ?_); rintro e w' ⟨rfl, rfl⟩; simp only [H1.out, H2.out, H4.out])
    go_ret
    exact ⟨fr_ret hr.out.symm, by go_grown⟩
  · have hr := Lib.hid (show k.chk = 0 by simp only [Lk.chk, Lk.ok, Lk.rest, hs, h0, h1, h2, h3, h4]; rfl)
    have E := eql_addr k.o0 k.o1 k.o2 k.o3 k.o4 k.o5 k.p0 k.p1 k.p2 k.p3 k.p4 k.p5 hB.o0 hB.o1 hB.o2 hB.o3 hB.o4 hB.o5 hB.p0 hB.p1 hB.p2 hB.p3 hB.p4 hB.p5
    rw [show addrB k.o0 k.o1 k.o2 k.o3 k.o4 k.o5 k.p0 k.p1 k.p2 k.p3 k.p4 k.p5 = k.same from rfl, h0] at E
    have H1 := Lib.hid h1
    clear h1
    have H2 := Lib.hid h2
    clear h2
    have H4 := Lib.hid h4
    clear h4
    clear h0
    obtain ⟨o0, o1, o2, o3, o4, o5, p0, p1, p2, p3, p4, p5, st, id, ot, tr, du⟩ := k
    simp only at *
    subst hs
    unfold Lk.cells
    go_enter Try.func14, Try.ntmps14
    go_wp2_with (go_at_call 35; (with_reducible refine (between_any _ _ _ _).mono ?_); rintro e w' ⟨rfl, rfl⟩; simp only [H1.out, H2.out, H4.out])
    go_ret
    exact ⟨fr_ret hr.out.symm, by go_grown⟩
end Go.Proofs.Ytmighkgjbohieaa
