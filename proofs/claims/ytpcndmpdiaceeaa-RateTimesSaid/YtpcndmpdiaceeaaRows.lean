/-
  No cell of these rows narrows 'for every input' (looked for: loops, veiled, ifaces, maps, wideKeys, modest, calm, conditions, laid).
  DERIVED. THE GIVEN ROWS OF THIS SEAT. 7 by the template 'for every input the law returns true; each argument reads behind the call as it read before'; 0 by the template 'total and deterministic' (their statements: YtpcndmpdiaceeaaTotals.lean).
  GIVEN WITH THE SEED: the statements are not yours to turn. If you find one false, say at which input.
  Laid BY PROGRAM, IN A SANDBOX (cutbox-rows.mjs): the forced cells as the released guide's own fill.sh prints them over the translation cdd0b13e29d16f45… (all of the seat's roots in one cut). By AI agents, Wed Nov 11 2026. No macro, syntax, notation, axiom, sorry.
-/
import Derived.Test.YtpcndmpdiaceeaaChecked
import GoSem.Claim
import GoSem.ClaimJoined
import GoSem.ClaimMapViews
import Derived.JoinedTies
import Derived.KernelRfl
namespace Go.Proofs.Ytpcndmpdiaceeaa
/- THE CELL 'sum', in the pinned program and in every row, IS THE sha256 OF THE DUMP (.gsa) THAT YtpcndmpdiaceeaaProg.lean LOADS. Nothing in Lean hashes anything: it is a label: what it is worth is what the hold of that sum in a sandbox is worth. -/
noncomputable def Try.pinned : Pinned := { name := "ytpcndmpdiaceeaa", sum := "cdd0b13e29d16f4594e81c29c9eb70388fbc693d8ed91839a32a950ae9edc8f2", checked := Try.checked }
namespace Rows
def none {H : Type} : Left H := { results := [], args := [] }

/-- 'hotspotlaw09.RateTable': WHATEVER THE INPUT: true; the input reads as it did. -/
def rateTableSpec : ChangeSpec := { name := "rateTable", fn := fun _ => fun
  | [d1, d2] => { results := [.lit (.bool true)], args := [d1, d2] }
  | _ => none }
def rateTableRow : OpenClaim := { program := "ytpcndmpdiaceeaa", sum := "cdd0b13e29d16f4594e81c29c9eb70388fbc693d8ed91839a32a950ae9edc8f2", func := "hotspot/hotspotlaw09.RateTable", spec := "rateTable", apart := false }
def RateTableSaid : Prop := rateTableRow.holds Try.pinned (OpenSpec.ofChange rateTableSpec)

/-- ITS FALSE NEIGHBOUR: 'it returns false'. Refute it at one input. -/
def rateTableWrong : ChangeSpec := { name := "rateTable", fn := fun _ => fun
  | [d1, d2] => { results := [.lit (.bool false)], args := [d1, d2] }
  | _ => none }
def RateTableWrongFalsely : Prop := rateTableRow.holds Try.pinned (OpenSpec.ofChange rateTableWrong)

/-- 'hotspotlaw09.RateMonotone': WHATEVER THE INPUT: true; the input reads as it did. -/
def rateMonotoneSpec : ChangeSpec := { name := "rateMonotone", fn := fun _ => fun
  | [d1, d2, d3, d4] => { results := [.lit (.bool true)], args := [d1, d2, d3, d4] }
  | _ => none }
def rateMonotoneRow : OpenClaim := { program := "ytpcndmpdiaceeaa", sum := "cdd0b13e29d16f4594e81c29c9eb70388fbc693d8ed91839a32a950ae9edc8f2", func := "hotspot/hotspotlaw09.RateMonotone", spec := "rateMonotone", unfollowed := true, recurses := true, apart := false }
def RateMonotoneSaid : Prop := rateMonotoneRow.holds Try.pinned (OpenSpec.ofChange rateMonotoneSpec)

/-- ITS FALSE NEIGHBOUR: 'it returns false'. Refute it at one input. -/
def rateMonotoneWrong : ChangeSpec := { name := "rateMonotone", fn := fun _ => fun
  | [d1, d2, d3, d4] => { results := [.lit (.bool false)], args := [d1, d2, d3, d4] }
  | _ => none }
def RateMonotoneWrongFalsely : Prop := rateMonotoneRow.holds Try.pinned (OpenSpec.ofChange rateMonotoneWrong)

/-- 'hotspotlaw09.RateLevels': WHATEVER THE INPUT: true; the input reads as it did. -/
def rateLevelsSpec : ChangeSpec := { name := "rateLevels", fn := fun _ => fun
  | [d1, d2] => { results := [.lit (.bool true)], args := [d1, d2] }
  | _ => none }
def rateLevelsRow : OpenClaim := { program := "ytpcndmpdiaceeaa", sum := "cdd0b13e29d16f4594e81c29c9eb70388fbc693d8ed91839a32a950ae9edc8f2", func := "hotspot/hotspotlaw09.RateLevels", spec := "rateLevels", unfollowed := true, recurses := true, apart := false }
def RateLevelsSaid : Prop := rateLevelsRow.holds Try.pinned (OpenSpec.ofChange rateLevelsSpec)

/-- ITS FALSE NEIGHBOUR: 'it returns false'. Refute it at one input. -/
def rateLevelsWrong : ChangeSpec := { name := "rateLevels", fn := fun _ => fun
  | [d1, d2] => { results := [.lit (.bool false)], args := [d1, d2] }
  | _ => none }
def RateLevelsWrongFalsely : Prop := rateLevelsRow.holds Try.pinned (OpenSpec.ofChange rateLevelsWrong)

/-- 'hotspotlaw09.RateReplies': WHATEVER THE INPUT: true; the input reads as it did. -/
def rateRepliesSpec : ChangeSpec := { name := "rateReplies", fn := fun _ => fun
  | [d] => { results := [.lit (.bool true)], args := [d] }
  | _ => none }
def rateRepliesRow : OpenClaim := { program := "ytpcndmpdiaceeaa", sum := "cdd0b13e29d16f4594e81c29c9eb70388fbc693d8ed91839a32a950ae9edc8f2", func := "hotspot/hotspotlaw09.RateReplies", spec := "rateReplies", unfollowed := true, recurses := true, apart := false }
def RateRepliesSaid : Prop := rateRepliesRow.holds Try.pinned (OpenSpec.ofChange rateRepliesSpec)

/-- ITS FALSE NEIGHBOUR: 'it returns false'. Refute it at one input. -/
def rateRepliesWrong : ChangeSpec := { name := "rateReplies", fn := fun _ => fun
  | [d] => { results := [.lit (.bool false)], args := [d] }
  | _ => none }
def RateRepliesWrongFalsely : Prop := rateRepliesRow.holds Try.pinned (OpenSpec.ofChange rateRepliesWrong)

/-- 'hotspotlaw09.RateFits': WHATEVER THE INPUT: true; the input reads as it did. -/
def rateFitsSpec : ChangeSpec := { name := "rateFits", fn := fun _ => fun
  | [d1, d2, d3] => { results := [.lit (.bool true)], args := [d1, d2, d3] }
  | _ => none }
def rateFitsRow : OpenClaim := { program := "ytpcndmpdiaceeaa", sum := "cdd0b13e29d16f4594e81c29c9eb70388fbc693d8ed91839a32a950ae9edc8f2", func := "hotspot/hotspotlaw09.RateFits", spec := "rateFits", unfollowed := true, recurses := true, apart := false }
def RateFitsSaid : Prop := rateFitsRow.holds Try.pinned (OpenSpec.ofChange rateFitsSpec)

/-- ITS FALSE NEIGHBOUR: 'it returns false'. Refute it at one input. -/
def rateFitsWrong : ChangeSpec := { name := "rateFits", fn := fun _ => fun
  | [d1, d2, d3] => { results := [.lit (.bool false)], args := [d1, d2, d3] }
  | _ => none }
def RateFitsWrongFalsely : Prop := rateFitsRow.holds Try.pinned (OpenSpec.ofChange rateFitsWrong)

/-- 'hotspotlaw09.RateTimes': WHATEVER THE INPUT: true; the input reads as it did. -/
def rateTimesSpec : ChangeSpec := { name := "rateTimes", fn := fun _ => fun
  | [d1, d2, d3] => { results := [.lit (.bool true)], args := [d1, d2, d3] }
  | _ => none }
def rateTimesRow : OpenClaim := { program := "ytpcndmpdiaceeaa", sum := "cdd0b13e29d16f4594e81c29c9eb70388fbc693d8ed91839a32a950ae9edc8f2", func := "hotspot/hotspotlaw09.RateTimes", spec := "rateTimes", unfollowed := true, recurses := true, apart := false }
def RateTimesSaid : Prop := rateTimesRow.holds Try.pinned (OpenSpec.ofChange rateTimesSpec)

/-- ITS FALSE NEIGHBOUR: 'it returns false'. Refute it at one input. -/
def rateTimesWrong : ChangeSpec := { name := "rateTimes", fn := fun _ => fun
  | [d1, d2, d3] => { results := [.lit (.bool false)], args := [d1, d2, d3] }
  | _ => none }
def RateTimesWrongFalsely : Prop := rateTimesRow.holds Try.pinned (OpenSpec.ofChange rateTimesWrong)

/-- 'hotspotlaw09.RateNames': WHATEVER THE INPUT: true; the input reads as it did. -/
def rateNamesSpec : ChangeSpec := { name := "rateNames", fn := fun _ => fun
  | [] => { results := [.lit (.bool true)], args := [] }
  | _ => none }
def rateNamesRow : OpenClaim := { program := "ytpcndmpdiaceeaa", sum := "cdd0b13e29d16f4594e81c29c9eb70388fbc693d8ed91839a32a950ae9edc8f2", func := "hotspot/hotspotlaw09.RateNames", spec := "rateNames", unfollowed := true, recurses := true, apart := false }
def RateNamesSaid : Prop := rateNamesRow.holds Try.pinned (OpenSpec.ofChange rateNamesSpec)

/-- ITS FALSE NEIGHBOUR: 'it returns false'. Refute it at one input. -/
def rateNamesWrong : ChangeSpec := { name := "rateNames", fn := fun _ => fun
  | [] => { results := [.lit (.bool false)], args := [] }
  | _ => none }
def RateNamesWrongFalsely : Prop := rateNamesRow.holds Try.pinned (OpenSpec.ofChange rateNamesWrong)

/- THE SECOND FORM. 'bulk': how many values and letters a reading holds, each counted each time it is reached (what is shared counts as often as it is met; a slice's spare places count too). A statement '..UptoSaid' is the law's where the arguments, and the package variables that the reading takes, are together of bulk at most 1048576: NARROWER than '..Said'. Prove '..Said' where nothing that the law and all that it calls make is longer than what came in: it says more and counts as full. Else prove '..UptoSaid'. A law counts once. -/
mutual
def uptoBulk {H : Type} : DataW H → Nat
  | .lit (.string bytes) => bytes.length + 1
  | .lit _ => 1
  | .nil => 1
  | .ptr d => uptoBulk d + 1
  | .slice elems spare => uptoBulkAll elems + uptoBulkAll spare + 1
  | .agg parts => uptoBulkAll parts + 1
  | .iface _ d => uptoBulk d + 1
  | .map entries => uptoBulkEntries entries + 1
  | .held _ => 1
def uptoBulkAll {H : Type} : List (DataW H) → Nat
  | [] => 0
  | d :: r => uptoBulk d + uptoBulkAll r
def uptoBulkEntries {H : Type} : List (Lit × DataW H) → Nat
  | [] => 0
  | x :: r => uptoBulkEntry x + uptoBulkEntries r
def uptoBulkEntry {H : Type} : Lit × DataW H → Nat
  | (.string bytes, d) => bytes.length + uptoBulk d + 1
  | (_, d) => uptoBulk d + 1
 end
def uptoSmall : (H : Type) → List (DataW H) → Bool := fun _ ds => decide (uptoBulkAll ds ≤ 1048576)
def OpenSpec.upto (s : _root_.Go.ChangeSpec) : _root_.Go.OpenSpec := { _root_.Go.OpenSpec.ofChange s with cond := some uptoSmall }

/-- 'hotspotlaw09.RateTable', WHERE WHAT IT READS IS OF BULK AT MOST 1048576: true; the input reads as it did. -/
def rateTableUptoRow : OpenClaim := { program := "ytpcndmpdiaceeaa", sum := "cdd0b13e29d16f4594e81c29c9eb70388fbc693d8ed91839a32a950ae9edc8f2", func := "hotspot/hotspotlaw09.RateTable", spec := "rateTable", apart := false, narrowed := true }
def RateTableUptoSaid : Prop := rateTableUptoRow.holds Try.pinned (OpenSpec.upto rateTableSpec)

/-- 'hotspotlaw09.RateMonotone', WHERE WHAT IT READS IS OF BULK AT MOST 1048576: true; the input reads as it did. -/
def rateMonotoneUptoRow : OpenClaim := { program := "ytpcndmpdiaceeaa", sum := "cdd0b13e29d16f4594e81c29c9eb70388fbc693d8ed91839a32a950ae9edc8f2", func := "hotspot/hotspotlaw09.RateMonotone", spec := "rateMonotone", unfollowed := true, recurses := true, apart := false, narrowed := true }
def RateMonotoneUptoSaid : Prop := rateMonotoneUptoRow.holds Try.pinned (OpenSpec.upto rateMonotoneSpec)

/-- 'hotspotlaw09.RateLevels', WHERE WHAT IT READS IS OF BULK AT MOST 1048576: true; the input reads as it did. -/
def rateLevelsUptoRow : OpenClaim := { program := "ytpcndmpdiaceeaa", sum := "cdd0b13e29d16f4594e81c29c9eb70388fbc693d8ed91839a32a950ae9edc8f2", func := "hotspot/hotspotlaw09.RateLevels", spec := "rateLevels", unfollowed := true, recurses := true, apart := false, narrowed := true }
def RateLevelsUptoSaid : Prop := rateLevelsUptoRow.holds Try.pinned (OpenSpec.upto rateLevelsSpec)

/-- 'hotspotlaw09.RateReplies', WHERE WHAT IT READS IS OF BULK AT MOST 1048576: true; the input reads as it did. -/
def rateRepliesUptoRow : OpenClaim := { program := "ytpcndmpdiaceeaa", sum := "cdd0b13e29d16f4594e81c29c9eb70388fbc693d8ed91839a32a950ae9edc8f2", func := "hotspot/hotspotlaw09.RateReplies", spec := "rateReplies", unfollowed := true, recurses := true, apart := false, narrowed := true }
def RateRepliesUptoSaid : Prop := rateRepliesUptoRow.holds Try.pinned (OpenSpec.upto rateRepliesSpec)

/-- 'hotspotlaw09.RateFits', WHERE WHAT IT READS IS OF BULK AT MOST 1048576: true; the input reads as it did. -/
def rateFitsUptoRow : OpenClaim := { program := "ytpcndmpdiaceeaa", sum := "cdd0b13e29d16f4594e81c29c9eb70388fbc693d8ed91839a32a950ae9edc8f2", func := "hotspot/hotspotlaw09.RateFits", spec := "rateFits", unfollowed := true, recurses := true, apart := false, narrowed := true }
def RateFitsUptoSaid : Prop := rateFitsUptoRow.holds Try.pinned (OpenSpec.upto rateFitsSpec)

/-- 'hotspotlaw09.RateTimes', WHERE WHAT IT READS IS OF BULK AT MOST 1048576: true; the input reads as it did. -/
def rateTimesUptoRow : OpenClaim := { program := "ytpcndmpdiaceeaa", sum := "cdd0b13e29d16f4594e81c29c9eb70388fbc693d8ed91839a32a950ae9edc8f2", func := "hotspot/hotspotlaw09.RateTimes", spec := "rateTimes", unfollowed := true, recurses := true, apart := false, narrowed := true }
def RateTimesUptoSaid : Prop := rateTimesUptoRow.holds Try.pinned (OpenSpec.upto rateTimesSpec)

/-- 'hotspotlaw09.RateNames', WHERE WHAT IT READS IS OF BULK AT MOST 1048576: true; the input reads as it did. -/
def rateNamesUptoRow : OpenClaim := { program := "ytpcndmpdiaceeaa", sum := "cdd0b13e29d16f4594e81c29c9eb70388fbc693d8ed91839a32a950ae9edc8f2", func := "hotspot/hotspotlaw09.RateNames", spec := "rateNames", unfollowed := true, recurses := true, apart := false, narrowed := true }
def RateNamesUptoSaid : Prop := rateNamesUptoRow.holds Try.pinned (OpenSpec.upto rateNamesSpec)

end Rows
end Go.Proofs.Ytpcndmpdiaceeaa
