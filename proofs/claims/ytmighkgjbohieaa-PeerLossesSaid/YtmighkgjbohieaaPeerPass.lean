/-
  What the law's 'passed' comes to; the chapter's example.
-/
import Derived.Test.YtmighkgjbohieaaPeerFacts
set_option linter.unusedVariables false
set_option linter.unusedSimpArgs false
namespace Go.Proofs.Ytmighkgjbohieaa
open Go.ChangeShapes Go.WideShapes Go.ChangeAt Go.RowKit Go.Great

/-- Delivers the messages of both ends, in order, for at most n rounds. -/
def passF : Nat → Lk → Lk → List (List Int) → List (List Int) → Int → Lk × Lk × Bool
  | 0, x, y, _, _, _ => (x, y, false)
  | _ + 1, x, y, [], [], _ => (x, y, true)
  | n + 1, x, y, [], m :: r, now => if (pHandle x m now).2.2 = 0 then passF n (pHandle x m now).1 y (pHandle x m now).2.1 r now else (x, y, false)
  | n + 1, x, y, m :: o, o1, now => if (pHandle y m now).2.2 = 0 then passF n x (pHandle y m now).1 o (o1 ++ (pHandle y m now).2.1) now else (x, y, false)
def exA : Res := pStart (k0 7) 0
def exB : Res := pHandle (k1 9) (msgOf 1 7 0) 0
theorem ex_a : exA.2 = ([msgOf 1 7 0], 0) := by decide +kernel
theorem ex_b : exB.2 = ([msgOf 1 9 0, msgOf 2 9 7], 0) := by decide +kernel
def exP : Lk × Lk × Bool := passF 100 exA.1 exB.1 [] exB.2.1 0
theorem ex_p : exP.2.2 = true ∧ pairedB exP.1 exP.2.1 = true := by decide +kernel
end Go.Proofs.Ytmighkgjbohieaa
