/-
  NARROWER THAN 'FOR EVERY INPUT', by the rows' own cells (each row's printed sentence says how): WindowGroup: laid · WindowNames: laid · WindowOrder: laid · WindowMoves: laid · WindowFirst: laid.
  DERIVED. THE GIVEN ROWS OF THIS SEAT. 5 by the template 'for every input the law returns true; each argument reads behind the call as it read before'; 0 by the template 'total and deterministic' (their statements: YtclahaafpiekeaaDoorTotals.lean).
  GIVEN WITH THE SEED: the statements are not yours to turn. If you find one false, say at which input.
  Laid BY PROGRAM, IN A SANDBOX (cutbox-rows.mjs): the forced cells as the released guide's own fill.sh prints them over the translation e362d4ea9ef31fae… (all of the seat's roots in one cut). By AI agents, Wed Nov 11 2026. No macro, syntax, notation, axiom, sorry.
-/
import Derived.Test.YtclahaafpiekeaaDoorChecked
import GoSem.Claim
import GoSem.ClaimJoined
import GoSem.ClaimMapViews
import Derived.JoinedTies
import Derived.KernelRfl
namespace Go.Proofs.YtclahaafpiekeaaDoor
/- THE CELL 'sum', in the pinned program and in every row, IS THE sha256 OF THE DUMP (.gsa) THAT YtclahaafpiekeaaDoorProg.lean LOADS. Nothing in Lean hashes anything: it is a label: what it is worth is what the hold of that sum in a sandbox is worth. -/
noncomputable def Tryd.pinned : Pinned := { name := "ytclahaafpiekeaadoor", sum := "e362d4ea9ef31fae5d8c75e3b303bfb0d204497ae8c3ae272599850eeb13eb64", checked := Tryd.checked }
namespace Rows
def none {H : Type} : Left H := { results := [], args := [] }

/- WHAT THE LISTED PACKAGE-LEVEL VARIABLES READ AS WHEN THE CALL BEGINS. Each datum BY PROGRAM (the guide's laid-datum.mjs) off the statement by which the dump's own 'gosem.cut.vars' lays the variable. In a bare row this is a premise. The card (YtclahaafpiekeaaDoorCards.lean) ties it to the program's text. -/
def laid_math_bits_deBruijn64tab {H : Type} : DataW H := .agg [.lit (.int .u8 0), .lit (.int .u8 1), .lit (.int .u8 56), .lit (.int .u8 2), .lit (.int .u8 57), .lit (.int .u8 49), .lit (.int .u8 28), .lit (.int .u8 3), .lit (.int .u8 61), .lit (.int .u8 58), .lit (.int .u8 42), .lit (.int .u8 50), .lit (.int .u8 38), .lit (.int .u8 29), .lit (.int .u8 17), .lit (.int .u8 4), .lit (.int .u8 62), .lit (.int .u8 47), .lit (.int .u8 59), .lit (.int .u8 36), .lit (.int .u8 45), .lit (.int .u8 43), .lit (.int .u8 51), .lit (.int .u8 22), .lit (.int .u8 53), .lit (.int .u8 39), .lit (.int .u8 33), .lit (.int .u8 30), .lit (.int .u8 24), .lit (.int .u8 18), .lit (.int .u8 12), .lit (.int .u8 5), .lit (.int .u8 63), .lit (.int .u8 55), .lit (.int .u8 48), .lit (.int .u8 27), .lit (.int .u8 60), .lit (.int .u8 41), .lit (.int .u8 37), .lit (.int .u8 16), .lit (.int .u8 46), .lit (.int .u8 35), .lit (.int .u8 44), .lit (.int .u8 21), .lit (.int .u8 52), .lit (.int .u8 32), .lit (.int .u8 23), .lit (.int .u8 11), .lit (.int .u8 54), .lit (.int .u8 26), .lit (.int .u8 40), .lit (.int .u8 15), .lit (.int .u8 34), .lit (.int .u8 20), .lit (.int .u8 31), .lit (.int .u8 10), .lit (.int .u8 25), .lit (.int .u8 14), .lit (.int .u8 19), .lit (.int .u8 9), .lit (.int .u8 13), .lit (.int .u8 8), .lit (.int .u8 7), .lit (.int .u8 6)]

/-- 'hotspotlaw17.WindowGroup': WHATEVER THE INPUT: true; the input reads as it did. -/
def windowGroupSpec : ChangeSpec := { name := "windowGroup", fn := fun _ => fun
  | [d1, d2, d3] => { results := [.lit (.bool true)], args := [d1, d2, d3] }
  | _ => none }
def windowGroupRow : OpenClaim := { program := "ytclahaafpiekeaadoor", sum := "e362d4ea9ef31fae5d8c75e3b303bfb0d204497ae8c3ae272599850eeb13eb64", func := "hotspot/hotspotlaw17.WindowGroup", spec := "windowGroup", named := ["math/bits.deBruijn64tab"], apart := false, laid := [("math/bits.deBruijn64tab", laid_math_bits_deBruijn64tab)] }
def WindowGroupSaid : Prop := windowGroupRow.holds Tryd.pinned (OpenSpec.ofChange windowGroupSpec)

/-- ITS FALSE NEIGHBOUR: 'it returns false'. Refute it at one input. -/
def windowGroupWrong : ChangeSpec := { name := "windowGroup", fn := fun _ => fun
  | [d1, d2, d3] => { results := [.lit (.bool false)], args := [d1, d2, d3] }
  | _ => none }
def WindowGroupWrongFalsely : Prop := windowGroupRow.holds Tryd.pinned (OpenSpec.ofChange windowGroupWrong)

/-- 'hotspotlaw17.WindowNames': WHATEVER THE INPUT: true; the input reads as it did. -/
def windowNamesSpec : ChangeSpec := { name := "windowNames", fn := fun _ => fun
  | [] => { results := [.lit (.bool true)], args := [] }
  | _ => none }
def windowNamesRow : OpenClaim := { program := "ytclahaafpiekeaadoor", sum := "e362d4ea9ef31fae5d8c75e3b303bfb0d204497ae8c3ae272599850eeb13eb64", func := "hotspot/hotspotlaw17.WindowNames", spec := "windowNames", named := ["math/bits.deBruijn64tab"], apart := false, laid := [("math/bits.deBruijn64tab", laid_math_bits_deBruijn64tab)] }
def WindowNamesSaid : Prop := windowNamesRow.holds Tryd.pinned (OpenSpec.ofChange windowNamesSpec)

/-- ITS FALSE NEIGHBOUR: 'it returns false'. Refute it at one input. -/
def windowNamesWrong : ChangeSpec := { name := "windowNames", fn := fun _ => fun
  | [] => { results := [.lit (.bool false)], args := [] }
  | _ => none }
def WindowNamesWrongFalsely : Prop := windowNamesRow.holds Tryd.pinned (OpenSpec.ofChange windowNamesWrong)

/-- 'hotspotlaw17.WindowOrder': WHATEVER THE INPUT: true; the input reads as it did. -/
def windowOrderSpec : ChangeSpec := { name := "windowOrder", fn := fun _ => fun
  | [d1, d2, d3, d4] => { results := [.lit (.bool true)], args := [d1, d2, d3, d4] }
  | _ => none }
def windowOrderRow : OpenClaim := { program := "ytclahaafpiekeaadoor", sum := "e362d4ea9ef31fae5d8c75e3b303bfb0d204497ae8c3ae272599850eeb13eb64", func := "hotspot/hotspotlaw17.WindowOrder", spec := "windowOrder", named := ["math/bits.deBruijn64tab"], apart := false, laid := [("math/bits.deBruijn64tab", laid_math_bits_deBruijn64tab)] }
def WindowOrderSaid : Prop := windowOrderRow.holds Tryd.pinned (OpenSpec.ofChange windowOrderSpec)

/-- ITS FALSE NEIGHBOUR: 'it returns false'. Refute it at one input. -/
def windowOrderWrong : ChangeSpec := { name := "windowOrder", fn := fun _ => fun
  | [d1, d2, d3, d4] => { results := [.lit (.bool false)], args := [d1, d2, d3, d4] }
  | _ => none }
def WindowOrderWrongFalsely : Prop := windowOrderRow.holds Tryd.pinned (OpenSpec.ofChange windowOrderWrong)

/-- 'hotspotlaw17.WindowMoves': WHATEVER THE INPUT: true; the input reads as it did. -/
def windowMovesSpec : ChangeSpec := { name := "windowMoves", fn := fun _ => fun
  | [d1, d2, d3] => { results := [.lit (.bool true)], args := [d1, d2, d3] }
  | _ => none }
def windowMovesRow : OpenClaim := { program := "ytclahaafpiekeaadoor", sum := "e362d4ea9ef31fae5d8c75e3b303bfb0d204497ae8c3ae272599850eeb13eb64", func := "hotspot/hotspotlaw17.WindowMoves", spec := "windowMoves", named := ["math/bits.deBruijn64tab"], apart := false, laid := [("math/bits.deBruijn64tab", laid_math_bits_deBruijn64tab)] }
def WindowMovesSaid : Prop := windowMovesRow.holds Tryd.pinned (OpenSpec.ofChange windowMovesSpec)

/-- ITS FALSE NEIGHBOUR: 'it returns false'. Refute it at one input. -/
def windowMovesWrong : ChangeSpec := { name := "windowMoves", fn := fun _ => fun
  | [d1, d2, d3] => { results := [.lit (.bool false)], args := [d1, d2, d3] }
  | _ => none }
def WindowMovesWrongFalsely : Prop := windowMovesRow.holds Tryd.pinned (OpenSpec.ofChange windowMovesWrong)

/-- 'hotspotlaw17.WindowFirst': WHATEVER THE INPUT: true; the input reads as it did. -/
def windowFirstSpec : ChangeSpec := { name := "windowFirst", fn := fun _ => fun
  | [d1, d2] => { results := [.lit (.bool true)], args := [d1, d2] }
  | _ => none }
def windowFirstRow : OpenClaim := { program := "ytclahaafpiekeaadoor", sum := "e362d4ea9ef31fae5d8c75e3b303bfb0d204497ae8c3ae272599850eeb13eb64", func := "hotspot/hotspotlaw17.WindowFirst", spec := "windowFirst", named := ["math/bits.deBruijn64tab"], apart := false, laid := [("math/bits.deBruijn64tab", laid_math_bits_deBruijn64tab)] }
def WindowFirstSaid : Prop := windowFirstRow.holds Tryd.pinned (OpenSpec.ofChange windowFirstSpec)

/-- ITS FALSE NEIGHBOUR: 'it returns false'. Refute it at one input. -/
def windowFirstWrong : ChangeSpec := { name := "windowFirst", fn := fun _ => fun
  | [d1, d2] => { results := [.lit (.bool false)], args := [d1, d2] }
  | _ => none }
def WindowFirstWrongFalsely : Prop := windowFirstRow.holds Tryd.pinned (OpenSpec.ofChange windowFirstWrong)

/- THE SECOND FORM. 'bulk': how many values and letters a reading holds, each counted each time it is reached (what is shared counts as often as it is met; a slice's spare places count too). A statement '..UptoSaid' is the law's where the arguments, and the package variables that the reading takes, are together of bulk at most 1048576: NARROWER than '..Said'. Prove '..Said' where nothing that the law and all that it calls make is longer than what came in: it says more and counts as full. Else prove '..UptoSaid'. A law counts once. -/
mutual
def uptoBulk {H : Type} : DataW H → Nat
  | .lit (.string bytes) => bytes.length + 1
  | .lit _ => 1
  | .nil => 1
  | .ptr d => uptoBulk d + 1
  | .slice elems spare => uptoBulkAll elems + uptoBulkAll spare + 1
  | .agg parts => uptoBulkAll parts + 1
  | .iface _ d => uptoBulk d + 1
  | .map entries => uptoBulkEntries entries + 1
  | .held _ => 1
def uptoBulkAll {H : Type} : List (DataW H) → Nat
  | [] => 0
  | d :: r => uptoBulk d + uptoBulkAll r
def uptoBulkEntries {H : Type} : List (Lit × DataW H) → Nat
  | [] => 0
  | x :: r => uptoBulkEntry x + uptoBulkEntries r
def uptoBulkEntry {H : Type} : Lit × DataW H → Nat
  | (.string bytes, d) => bytes.length + uptoBulk d + 1
  | (_, d) => uptoBulk d + 1
 end
def uptoSmall : (H : Type) → List (DataW H) → Bool := fun _ ds => decide (uptoBulkAll ds ≤ 1048576)
def OpenSpec.upto (s : _root_.Go.ChangeSpec) : _root_.Go.OpenSpec := { _root_.Go.OpenSpec.ofChange s with cond := some uptoSmall }

/-- 'hotspotlaw17.WindowGroup', WHERE WHAT IT READS IS OF BULK AT MOST 1048576: true; the input reads as it did. -/
def windowGroupUptoRow : OpenClaim := { program := "ytclahaafpiekeaadoor", sum := "e362d4ea9ef31fae5d8c75e3b303bfb0d204497ae8c3ae272599850eeb13eb64", func := "hotspot/hotspotlaw17.WindowGroup", spec := "windowGroup", named := ["math/bits.deBruijn64tab"], apart := false, laid := [("math/bits.deBruijn64tab", laid_math_bits_deBruijn64tab)], narrowed := true }
def WindowGroupUptoSaid : Prop := windowGroupUptoRow.holds Tryd.pinned (OpenSpec.upto windowGroupSpec)

/-- 'hotspotlaw17.WindowNames', WHERE WHAT IT READS IS OF BULK AT MOST 1048576: true; the input reads as it did. -/
def windowNamesUptoRow : OpenClaim := { program := "ytclahaafpiekeaadoor", sum := "e362d4ea9ef31fae5d8c75e3b303bfb0d204497ae8c3ae272599850eeb13eb64", func := "hotspot/hotspotlaw17.WindowNames", spec := "windowNames", named := ["math/bits.deBruijn64tab"], apart := false, laid := [("math/bits.deBruijn64tab", laid_math_bits_deBruijn64tab)], narrowed := true }
def WindowNamesUptoSaid : Prop := windowNamesUptoRow.holds Tryd.pinned (OpenSpec.upto windowNamesSpec)

/-- 'hotspotlaw17.WindowOrder', WHERE WHAT IT READS IS OF BULK AT MOST 1048576: true; the input reads as it did. -/
def windowOrderUptoRow : OpenClaim := { program := "ytclahaafpiekeaadoor", sum := "e362d4ea9ef31fae5d8c75e3b303bfb0d204497ae8c3ae272599850eeb13eb64", func := "hotspot/hotspotlaw17.WindowOrder", spec := "windowOrder", named := ["math/bits.deBruijn64tab"], apart := false, laid := [("math/bits.deBruijn64tab", laid_math_bits_deBruijn64tab)], narrowed := true }
def WindowOrderUptoSaid : Prop := windowOrderUptoRow.holds Tryd.pinned (OpenSpec.upto windowOrderSpec)

/-- 'hotspotlaw17.WindowMoves', WHERE WHAT IT READS IS OF BULK AT MOST 1048576: true; the input reads as it did. -/
def windowMovesUptoRow : OpenClaim := { program := "ytclahaafpiekeaadoor", sum := "e362d4ea9ef31fae5d8c75e3b303bfb0d204497ae8c3ae272599850eeb13eb64", func := "hotspot/hotspotlaw17.WindowMoves", spec := "windowMoves", named := ["math/bits.deBruijn64tab"], apart := false, laid := [("math/bits.deBruijn64tab", laid_math_bits_deBruijn64tab)], narrowed := true }
def WindowMovesUptoSaid : Prop := windowMovesUptoRow.holds Tryd.pinned (OpenSpec.upto windowMovesSpec)

/-- 'hotspotlaw17.WindowFirst', WHERE WHAT IT READS IS OF BULK AT MOST 1048576: true; the input reads as it did. -/
def windowFirstUptoRow : OpenClaim := { program := "ytclahaafpiekeaadoor", sum := "e362d4ea9ef31fae5d8c75e3b303bfb0d204497ae8c3ae272599850eeb13eb64", func := "hotspot/hotspotlaw17.WindowFirst", spec := "windowFirst", named := ["math/bits.deBruijn64tab"], apart := false, laid := [("math/bits.deBruijn64tab", laid_math_bits_deBruijn64tab)], narrowed := true }
def WindowFirstUptoSaid : Prop := windowFirstUptoRow.holds Tryd.pinned (OpenSpec.upto windowFirstSpec)

end Rows
end Go.Proofs.YtclahaafpiekeaaDoor
