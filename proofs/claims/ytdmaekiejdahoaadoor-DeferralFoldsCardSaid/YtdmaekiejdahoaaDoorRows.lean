/-
  NARROWER THAN 'FOR EVERY INPUT', by the rows' own cells (each row's printed sentence says how): DeferralTells: laid · DeferralFolds: laid · DeferralKeeps: laid · DeferralOrder: laid · DeferralNames: laid.
  DERIVED. THE GIVEN ROWS OF THIS SEAT. 5 by the template 'for every input the law returns true; each argument reads behind the call as it read before'; 0 by the template 'total and deterministic' (their statements: YtdmaekiejdahoaaDoorTotals.lean).
  GIVEN WITH THE SEED: the statements are not yours to turn. If you find one false, say at which input.
  Laid BY PROGRAM, IN A SANDBOX (cutbox-rows.mjs): the forced cells as the released guide's own fill.sh prints them over the translation afbe28597dc7eede… (all of the seat's roots in one cut). By AI agents, Wed Nov 11 2026. No macro, syntax, notation, axiom, sorry.
-/
import Derived.Test.YtdmaekiejdahoaaDoorChecked
import GoSem.Claim
import GoSem.ClaimJoined
import GoSem.ClaimMapViews
import Derived.JoinedTies
import Derived.KernelRfl
namespace Go.Proofs.YtdmaekiejdahoaaDoor
/- THE CELL 'sum', in the pinned program and in every row, IS THE sha256 OF THE DUMP (.gsa) THAT YtdmaekiejdahoaaDoorProg.lean LOADS. Nothing in Lean hashes anything: it is a label: what it is worth is what the hold of that sum in a sandbox is worth. -/
noncomputable def Tryd.pinned : Pinned := { name := "ytdmaekiejdahoaadoor", sum := "afbe28597dc7eede584a5e7742316959e6e46c1606fa763e707efcabc0bd3933", checked := Tryd.checked }
namespace Rows
def none {H : Type} : Left H := { results := [], args := [] }

/- WHAT THE LISTED PACKAGE-LEVEL VARIABLES READ AS WHEN THE CALL BEGINS. Each datum BY PROGRAM (the guide's laid-datum.mjs) off the statement by which the dump's own 'gosem.cut.vars' lays the variable. In a bare row this is a premise. The card (YtdmaekiejdahoaaDoorCards.lean) ties it to the program's text. -/
def laid_hotspot_deferral_slots {H : Type} : DataW H := .agg [.lit (.int .i64 7), .lit (.int .i64 3), .lit (.int .i64 2), .lit (.int .i64 2)]
def laid_hotspot_hotspotlaw13_other {H : Type} : DataW H := .agg [.lit (.int .u8 2), .lit (.int .u8 0), .lit (.int .u8 0), .lit (.int .u8 0), .lit (.int .u8 0), .lit (.int .u8 9)]

/-- 'hotspotlaw13.DeferralTells': WHATEVER THE INPUT: true; the input reads as it did. -/
def deferralTellsSpec : ChangeSpec := { name := "deferralTells", fn := fun _ => fun
  | [d1, d2, d3, d4] => { results := [.lit (.bool true)], args := [d1, d2, d3, d4] }
  | _ => none }
def deferralTellsRow : OpenClaim := { program := "ytdmaekiejdahoaadoor", sum := "afbe28597dc7eede584a5e7742316959e6e46c1606fa763e707efcabc0bd3933", func := "hotspot/hotspotlaw13.DeferralTells", spec := "deferralTells", named := ["hotspot/deferral.slots"], apart := false, laid := [("hotspot/deferral.slots", laid_hotspot_deferral_slots)] }
def DeferralTellsSaid : Prop := deferralTellsRow.holds Tryd.pinned (OpenSpec.ofChange deferralTellsSpec)

/-- ITS FALSE NEIGHBOUR: 'it returns false'. Refute it at one input. -/
def deferralTellsWrong : ChangeSpec := { name := "deferralTells", fn := fun _ => fun
  | [d1, d2, d3, d4] => { results := [.lit (.bool false)], args := [d1, d2, d3, d4] }
  | _ => none }
def DeferralTellsWrongFalsely : Prop := deferralTellsRow.holds Tryd.pinned (OpenSpec.ofChange deferralTellsWrong)

/-- 'hotspotlaw13.DeferralFolds': WHATEVER THE INPUT: true; the input reads as it did. -/
def deferralFoldsSpec : ChangeSpec := { name := "deferralFolds", fn := fun _ => fun
  | [d1, d2] => { results := [.lit (.bool true)], args := [d1, d2] }
  | _ => none }
def deferralFoldsRow : OpenClaim := { program := "ytdmaekiejdahoaadoor", sum := "afbe28597dc7eede584a5e7742316959e6e46c1606fa763e707efcabc0bd3933", func := "hotspot/hotspotlaw13.DeferralFolds", spec := "deferralFolds", named := ["hotspot/hotspotlaw13.other", "hotspot/deferral.slots"], apart := false, laid := [("hotspot/deferral.slots", laid_hotspot_deferral_slots), ("hotspot/hotspotlaw13.other", laid_hotspot_hotspotlaw13_other)] }
def DeferralFoldsSaid : Prop := deferralFoldsRow.holds Tryd.pinned (OpenSpec.ofChange deferralFoldsSpec)

/-- ITS FALSE NEIGHBOUR: 'it returns false'. Refute it at one input. -/
def deferralFoldsWrong : ChangeSpec := { name := "deferralFolds", fn := fun _ => fun
  | [d1, d2] => { results := [.lit (.bool false)], args := [d1, d2] }
  | _ => none }
def DeferralFoldsWrongFalsely : Prop := deferralFoldsRow.holds Tryd.pinned (OpenSpec.ofChange deferralFoldsWrong)

/-- 'hotspotlaw13.DeferralKeeps': WHATEVER THE INPUT: true; the input reads as it did. -/
def deferralKeepsSpec : ChangeSpec := { name := "deferralKeeps", fn := fun _ => fun
  | [d1, d2, d3, d4, d5, d6, d7] => { results := [.lit (.bool true)], args := [d1, d2, d3, d4, d5, d6, d7] }
  | _ => none }
def deferralKeepsRow : OpenClaim := { program := "ytdmaekiejdahoaadoor", sum := "afbe28597dc7eede584a5e7742316959e6e46c1606fa763e707efcabc0bd3933", func := "hotspot/hotspotlaw13.DeferralKeeps", spec := "deferralKeeps", named := ["hotspot/hotspotlaw13.other", "hotspot/deferral.slots"], apart := false, laid := [("hotspot/deferral.slots", laid_hotspot_deferral_slots), ("hotspot/hotspotlaw13.other", laid_hotspot_hotspotlaw13_other)] }
def DeferralKeepsSaid : Prop := deferralKeepsRow.holds Tryd.pinned (OpenSpec.ofChange deferralKeepsSpec)

/-- ITS FALSE NEIGHBOUR: 'it returns false'. Refute it at one input. -/
def deferralKeepsWrong : ChangeSpec := { name := "deferralKeeps", fn := fun _ => fun
  | [d1, d2, d3, d4, d5, d6, d7] => { results := [.lit (.bool false)], args := [d1, d2, d3, d4, d5, d6, d7] }
  | _ => none }
def DeferralKeepsWrongFalsely : Prop := deferralKeepsRow.holds Tryd.pinned (OpenSpec.ofChange deferralKeepsWrong)

/-- 'hotspotlaw13.DeferralOrder': WHATEVER THE INPUT: true; the input reads as it did. -/
def deferralOrderSpec : ChangeSpec := { name := "deferralOrder", fn := fun _ => fun
  | [d1, d2, d3, d4, d5] => { results := [.lit (.bool true)], args := [d1, d2, d3, d4, d5] }
  | _ => none }
def deferralOrderRow : OpenClaim := { program := "ytdmaekiejdahoaadoor", sum := "afbe28597dc7eede584a5e7742316959e6e46c1606fa763e707efcabc0bd3933", func := "hotspot/hotspotlaw13.DeferralOrder", spec := "deferralOrder", named := ["hotspot/hotspotlaw13.other", "hotspot/deferral.slots"], apart := false, laid := [("hotspot/deferral.slots", laid_hotspot_deferral_slots), ("hotspot/hotspotlaw13.other", laid_hotspot_hotspotlaw13_other)] }
def DeferralOrderSaid : Prop := deferralOrderRow.holds Tryd.pinned (OpenSpec.ofChange deferralOrderSpec)

/-- ITS FALSE NEIGHBOUR: 'it returns false'. Refute it at one input. -/
def deferralOrderWrong : ChangeSpec := { name := "deferralOrder", fn := fun _ => fun
  | [d1, d2, d3, d4, d5] => { results := [.lit (.bool false)], args := [d1, d2, d3, d4, d5] }
  | _ => none }
def DeferralOrderWrongFalsely : Prop := deferralOrderRow.holds Tryd.pinned (OpenSpec.ofChange deferralOrderWrong)

/-- 'hotspotlaw13.DeferralNames': WHATEVER THE INPUT: true; the input reads as it did. -/
def deferralNamesSpec : ChangeSpec := { name := "deferralNames", fn := fun _ => fun
  | [] => { results := [.lit (.bool true)], args := [] }
  | _ => none }
def deferralNamesRow : OpenClaim := { program := "ytdmaekiejdahoaadoor", sum := "afbe28597dc7eede584a5e7742316959e6e46c1606fa763e707efcabc0bd3933", func := "hotspot/hotspotlaw13.DeferralNames", spec := "deferralNames", named := ["hotspot/hotspotlaw13.other", "hotspot/deferral.slots"], apart := false, laid := [("hotspot/deferral.slots", laid_hotspot_deferral_slots), ("hotspot/hotspotlaw13.other", laid_hotspot_hotspotlaw13_other)] }
def DeferralNamesSaid : Prop := deferralNamesRow.holds Tryd.pinned (OpenSpec.ofChange deferralNamesSpec)

/-- ITS FALSE NEIGHBOUR: 'it returns false'. Refute it at one input. -/
def deferralNamesWrong : ChangeSpec := { name := "deferralNames", fn := fun _ => fun
  | [] => { results := [.lit (.bool false)], args := [] }
  | _ => none }
def DeferralNamesWrongFalsely : Prop := deferralNamesRow.holds Tryd.pinned (OpenSpec.ofChange deferralNamesWrong)

/- THE SECOND FORM. 'bulk': how many values and letters a reading holds, each counted each time it is reached (what is shared counts as often as it is met; a slice's spare places count too). A statement '..UptoSaid' is the law's where the arguments, and the package variables that the reading takes, are together of bulk at most 1048576: NARROWER than '..Said'. Prove '..Said' where nothing that the law and all that it calls make is longer than what came in: it says more and counts as full. Else prove '..UptoSaid'. A law counts once. -/
mutual
def uptoBulk {H : Type} : DataW H → Nat
  | .lit (.string bytes) => bytes.length + 1
  | .lit _ => 1
  | .nil => 1
  | .ptr d => uptoBulk d + 1
  | .slice elems spare => uptoBulkAll elems + uptoBulkAll spare + 1
  | .agg parts => uptoBulkAll parts + 1
  | .iface _ d => uptoBulk d + 1
  | .map entries => uptoBulkEntries entries + 1
  | .held _ => 1
def uptoBulkAll {H : Type} : List (DataW H) → Nat
  | [] => 0
  | d :: r => uptoBulk d + uptoBulkAll r
def uptoBulkEntries {H : Type} : List (Lit × DataW H) → Nat
  | [] => 0
  | x :: r => uptoBulkEntry x + uptoBulkEntries r
def uptoBulkEntry {H : Type} : Lit × DataW H → Nat
  | (.string bytes, d) => bytes.length + uptoBulk d + 1
  | (_, d) => uptoBulk d + 1
 end
def uptoSmall : (H : Type) → List (DataW H) → Bool := fun _ ds => decide (uptoBulkAll ds ≤ 1048576)
def OpenSpec.upto (s : _root_.Go.ChangeSpec) : _root_.Go.OpenSpec := { _root_.Go.OpenSpec.ofChange s with cond := some uptoSmall }

/-- 'hotspotlaw13.DeferralTells', WHERE WHAT IT READS IS OF BULK AT MOST 1048576: true; the input reads as it did. -/
def deferralTellsUptoRow : OpenClaim := { program := "ytdmaekiejdahoaadoor", sum := "afbe28597dc7eede584a5e7742316959e6e46c1606fa763e707efcabc0bd3933", func := "hotspot/hotspotlaw13.DeferralTells", spec := "deferralTells", named := ["hotspot/deferral.slots"], apart := false, laid := [("hotspot/deferral.slots", laid_hotspot_deferral_slots)], narrowed := true }
def DeferralTellsUptoSaid : Prop := deferralTellsUptoRow.holds Tryd.pinned (OpenSpec.upto deferralTellsSpec)

/-- 'hotspotlaw13.DeferralFolds', WHERE WHAT IT READS IS OF BULK AT MOST 1048576: true; the input reads as it did. -/
def deferralFoldsUptoRow : OpenClaim := { program := "ytdmaekiejdahoaadoor", sum := "afbe28597dc7eede584a5e7742316959e6e46c1606fa763e707efcabc0bd3933", func := "hotspot/hotspotlaw13.DeferralFolds", spec := "deferralFolds", named := ["hotspot/hotspotlaw13.other", "hotspot/deferral.slots"], apart := false, laid := [("hotspot/deferral.slots", laid_hotspot_deferral_slots), ("hotspot/hotspotlaw13.other", laid_hotspot_hotspotlaw13_other)], narrowed := true }
def DeferralFoldsUptoSaid : Prop := deferralFoldsUptoRow.holds Tryd.pinned (OpenSpec.upto deferralFoldsSpec)

/-- 'hotspotlaw13.DeferralKeeps', WHERE WHAT IT READS IS OF BULK AT MOST 1048576: true; the input reads as it did. -/
def deferralKeepsUptoRow : OpenClaim := { program := "ytdmaekiejdahoaadoor", sum := "afbe28597dc7eede584a5e7742316959e6e46c1606fa763e707efcabc0bd3933", func := "hotspot/hotspotlaw13.DeferralKeeps", spec := "deferralKeeps", named := ["hotspot/hotspotlaw13.other", "hotspot/deferral.slots"], apart := false, laid := [("hotspot/deferral.slots", laid_hotspot_deferral_slots), ("hotspot/hotspotlaw13.other", laid_hotspot_hotspotlaw13_other)], narrowed := true }
def DeferralKeepsUptoSaid : Prop := deferralKeepsUptoRow.holds Tryd.pinned (OpenSpec.upto deferralKeepsSpec)

/-- 'hotspotlaw13.DeferralOrder', WHERE WHAT IT READS IS OF BULK AT MOST 1048576: true; the input reads as it did. -/
def deferralOrderUptoRow : OpenClaim := { program := "ytdmaekiejdahoaadoor", sum := "afbe28597dc7eede584a5e7742316959e6e46c1606fa763e707efcabc0bd3933", func := "hotspot/hotspotlaw13.DeferralOrder", spec := "deferralOrder", named := ["hotspot/hotspotlaw13.other", "hotspot/deferral.slots"], apart := false, laid := [("hotspot/deferral.slots", laid_hotspot_deferral_slots), ("hotspot/hotspotlaw13.other", laid_hotspot_hotspotlaw13_other)], narrowed := true }
def DeferralOrderUptoSaid : Prop := deferralOrderUptoRow.holds Tryd.pinned (OpenSpec.upto deferralOrderSpec)

/-- 'hotspotlaw13.DeferralNames', WHERE WHAT IT READS IS OF BULK AT MOST 1048576: true; the input reads as it did. -/
def deferralNamesUptoRow : OpenClaim := { program := "ytdmaekiejdahoaadoor", sum := "afbe28597dc7eede584a5e7742316959e6e46c1606fa763e707efcabc0bd3933", func := "hotspot/hotspotlaw13.DeferralNames", spec := "deferralNames", named := ["hotspot/hotspotlaw13.other", "hotspot/deferral.slots"], apart := false, laid := [("hotspot/deferral.slots", laid_hotspot_deferral_slots), ("hotspot/hotspotlaw13.other", laid_hotspot_hotspotlaw13_other)], narrowed := true }
def DeferralNamesUptoSaid : Prop := deferralNamesUptoRow.holds Tryd.pinned (OpenSpec.upto deferralNamesSpec)

end Rows
end Go.Proofs.YtdmaekiejdahoaaDoor
