/-
  Equality of a link with itself, as the program computes it; what Start, Close, Tick, Handle and New come to has fields in range.
-/
import Derived.Test.YtmighkgjbohieaaPeerRefNew
set_option linter.unusedVariables false
set_option linter.unusedSimpArgs false
namespace Go.Proofs.Ytmighkgjbohieaa
open Go.ChangeShapes Go.WideShapes Go.ChangeAt Go.RowKit Go.Great

/-- Every field of a link lies in its kind's range. -/
structure Lk.Wf (k : Lk) : Prop extends Lk.By k where
  st : 0 ≤ k.st ∧ k.st ≤ 255
  id : -9223372036854775808 ≤ k.id ∧ k.id ≤ 9223372036854775807
  ot : -9223372036854775808 ≤ k.ot ∧ k.ot ≤ 9223372036854775807
  tr : -9223372036854775808 ≤ k.tr ∧ k.tr ≤ 9223372036854775807
  du : -9223372036854775808 ≤ k.du ∧ k.du ≤ 9223372036854775807
theorem i64_wf {n : Int} (h : -9223372036854775808 ≤ n ∧ n ≤ 9223372036854775807) : (Lit.int .i64 n).wf = true := by simp [Lit.wf, IntKind.min, IntKind.max, IntKind.signed, IntKind.bits]; omega
def Lk.lits (k : Lk) : List Lit := [.int .u8 k.o0, .int .u8 k.o1, .int .u8 k.o2, .int .u8 k.o3, .int .u8 k.o4, .int .u8 k.o5, .int .u8 k.p0, .int .u8 k.p1, .int .u8 k.p2, .int .u8 k.p3, .int .u8 k.p4, .int .u8 k.p5, .int .u8 k.st, .int .i64 k.id, .int .i64 k.ot, .int .i64 k.tr, .int .i64 k.du]
theorem link_lits (k : Lk) (h : k.Wf) : Try.prog.keyLits 4 27 k.cells.toList = some k.lits := by
  have c0 : Try.prog.cellsOf 27 = 17 := by kernel_rfl
  have c1 : Try.prog.cellsOf 25 = 6 := by kernel_rfl
  have c2 : Try.prog.cellsOf 5 = 1 := by kernel_rfl
  have c3 : Try.prog.cellsOf 3 = 1 := by kernel_rfl
  have r6 : List.range 6 = [0, 1, 2, 3, 4, 5] := rfl
  have hst := u8_wf h.st
  have hid := i64_wf h.id
  have hot := i64_wf h.ot
  have htr := i64_wf h.tr
  have hdu := i64_wf h.du
  have b0 := u8_wf h.o0
  have b1 := u8_wf h.o1
  have b2 := u8_wf h.o2
  have b3 := u8_wf h.o3
  have b4 := u8_wf h.o4
  have b5 := u8_wf h.o5
  have d0 := u8_wf h.p0
  have d1 := u8_wf h.p1
  have d2 := u8_wf h.p2
  have d3 := u8_wf h.p3
  have d4 := u8_wf h.p4
  have d5 := u8_wf h.p5
  simp [Lk.cells, Lk.lits, Program.keyLits, Try.underlying27, Try.underlying25, Try.underlying5, Try.underlying3, c0, c1, c2, c3, r6, hst, hid, hot, htr, hdu, b0, b1, b2, b3, b4, b5, d0, d1, d2, d3, d4, d5]
theorem eql_self (k : Lk) (h : k.Wf) (w : World) : (Op.equalIn 10000 27 (.agg k.cells) (.agg k.cells)).run Try.prog w = .ok true w := by
  have c0 : Try.prog.cellsOf 27 = 17 := by kernel_rfl
  have hk : Try.prog.keyTypeAt 4 27 = true := by kernel_rfl
  obtain ⟨r, hr, hiff⟩ := run_equalIn_deep 9996 4 27 hk w 4 4 (.agg k.cells) (.agg k.cells) _ _ (by simp [Value.formed, Try.underlying27, c0, Lk.cells]) (by simp [Value.formed, Try.underlying27, c0, Lk.cells]) (link_lits k h) (link_lits k h)
  rw [hr]
  congr 1
  rw [Bool.eq_iff_iff, hiff]
  simp
end Go.Proofs.Ytmighkgjbohieaa
