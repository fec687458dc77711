/-
  No cell of these rows narrows 'for every input' (looked for: loops, veiled, ifaces, maps, wideKeys, modest, calm, conditions, laid).
  DERIVED. THE GIVEN ROWS OF THIS SEAT. 7 by the template 'for every input the law returns true; each argument reads behind the call as it read before'; 0 by the template 'total and deterministic' (their statements: YtmighkgjbohieaaTotals.lean).
  GIVEN WITH THE SEED: the statements are not yours to turn. If you find one false, say at which input.
  Laid BY PROGRAM, IN A SANDBOX (cutbox-rows.mjs): the forced cells as the released guide's own fill.sh prints them over the translation a963a7c7bfa5a685… (all of the seat's roots in one cut). By AI agents, Wed Nov 11 2026. No macro, syntax, notation, axiom, sorry.
-/
import Derived.Test.YtmighkgjbohieaaChecked
import GoSem.Claim
import GoSem.ClaimJoined
import GoSem.ClaimMapViews
import Derived.JoinedTies
import Derived.KernelRfl
namespace Go.Proofs.Ytmighkgjbohieaa
/- THE CELL 'sum', in the pinned program and in every row, IS THE sha256 OF THE DUMP (.gsa) THAT YtmighkgjbohieaaProg.lean LOADS. Nothing in Lean hashes anything: it is a label: what it is worth is what the hold of that sum in a sandbox is worth. -/
noncomputable def Try.pinned : Pinned := { name := "ytmighkgjbohieaa", sum := "a963a7c7bfa5a6857cb0aed34f12f5d9e0333895fe8152690a392d0fc4dad775", checked := Try.checked }
namespace Rows
def none {H : Type} : Left H := { results := [], args := [] }

/-- 'hotspotlaw37.PeerPairs': WHATEVER THE INPUT: true; the input reads as it did. -/
def peerPairsSpec : ChangeSpec := { name := "peerPairs", fn := fun _ => fun
  | [d1, d2, d3] => { results := [.lit (.bool true)], args := [d1, d2, d3] }
  | _ => none }
def peerPairsRow : OpenClaim := { program := "ytmighkgjbohieaa", sum := "a963a7c7bfa5a6857cb0aed34f12f5d9e0333895fe8152690a392d0fc4dad775", func := "hotspot/hotspotlaw37.PeerPairs", spec := "peerPairs", apart := false }
def PeerPairsSaid : Prop := peerPairsRow.holds Try.pinned (OpenSpec.ofChange peerPairsSpec)

/-- ITS FALSE NEIGHBOUR: 'it returns false'. Refute it at one input. -/
def peerPairsWrong : ChangeSpec := { name := "peerPairs", fn := fun _ => fun
  | [d1, d2, d3] => { results := [.lit (.bool false)], args := [d1, d2, d3] }
  | _ => none }
def PeerPairsWrongFalsely : Prop := peerPairsRow.holds Try.pinned (OpenSpec.ofChange peerPairsWrong)

/-- 'hotspotlaw37.PeerSettles': WHATEVER THE INPUT: true; the input reads as it did. -/
def peerSettlesSpec : ChangeSpec := { name := "peerSettles", fn := fun _ => fun
  | [d1, d2, d3, d4] => { results := [.lit (.bool true)], args := [d1, d2, d3, d4] }
  | _ => none }
def peerSettlesRow : OpenClaim := { program := "ytmighkgjbohieaa", sum := "a963a7c7bfa5a6857cb0aed34f12f5d9e0333895fe8152690a392d0fc4dad775", func := "hotspot/hotspotlaw37.PeerSettles", spec := "peerSettles", apart := false }
def PeerSettlesSaid : Prop := peerSettlesRow.holds Try.pinned (OpenSpec.ofChange peerSettlesSpec)

/-- ITS FALSE NEIGHBOUR: 'it returns false'. Refute it at one input. -/
def peerSettlesWrong : ChangeSpec := { name := "peerSettles", fn := fun _ => fun
  | [d1, d2, d3, d4] => { results := [.lit (.bool false)], args := [d1, d2, d3, d4] }
  | _ => none }
def PeerSettlesWrongFalsely : Prop := peerSettlesRow.holds Try.pinned (OpenSpec.ofChange peerSettlesWrong)

/-- 'hotspotlaw37.PeerRetries': WHATEVER THE INPUT: true; the input reads as it did. -/
def peerRetriesSpec : ChangeSpec := { name := "peerRetries", fn := fun _ => fun
  | [d1, d2] => { results := [.lit (.bool true)], args := [d1, d2] }
  | _ => none }
def peerRetriesRow : OpenClaim := { program := "ytmighkgjbohieaa", sum := "a963a7c7bfa5a6857cb0aed34f12f5d9e0333895fe8152690a392d0fc4dad775", func := "hotspot/hotspotlaw37.PeerRetries", spec := "peerRetries", apart := false }
def PeerRetriesSaid : Prop := peerRetriesRow.holds Try.pinned (OpenSpec.ofChange peerRetriesSpec)

/-- ITS FALSE NEIGHBOUR: 'it returns false'. Refute it at one input. -/
def peerRetriesWrong : ChangeSpec := { name := "peerRetries", fn := fun _ => fun
  | [d1, d2] => { results := [.lit (.bool false)], args := [d1, d2] }
  | _ => none }
def PeerRetriesWrongFalsely : Prop := peerRetriesRow.holds Try.pinned (OpenSpec.ofChange peerRetriesWrong)

/-- 'hotspotlaw37.PeerLosses': WHATEVER THE INPUT: true; the input reads as it did. -/
def peerLossesSpec : ChangeSpec := { name := "peerLosses", fn := fun _ => fun
  | [d1, d2, d3, d4] => { results := [.lit (.bool true)], args := [d1, d2, d3, d4] }
  | _ => none }
def peerLossesRow : OpenClaim := { program := "ytmighkgjbohieaa", sum := "a963a7c7bfa5a6857cb0aed34f12f5d9e0333895fe8152690a392d0fc4dad775", func := "hotspot/hotspotlaw37.PeerLosses", spec := "peerLosses", apart := false }
def PeerLossesSaid : Prop := peerLossesRow.holds Try.pinned (OpenSpec.ofChange peerLossesSpec)

/-- ITS FALSE NEIGHBOUR: 'it returns false'. Refute it at one input. -/
def peerLossesWrong : ChangeSpec := { name := "peerLosses", fn := fun _ => fun
  | [d1, d2, d3, d4] => { results := [.lit (.bool false)], args := [d1, d2, d3, d4] }
  | _ => none }
def PeerLossesWrongFalsely : Prop := peerLossesRow.holds Try.pinned (OpenSpec.ofChange peerLossesWrong)

/-- 'hotspotlaw37.PeerRuns': WHATEVER THE INPUT: true; the input reads as it did. -/
def peerRunsSpec : ChangeSpec := { name := "peerRuns", fn := fun _ => fun
  | [d1, d2, d3] => { results := [.lit (.bool true)], args := [d1, d2, d3] }
  | _ => none }
def peerRunsRow : OpenClaim := { program := "ytmighkgjbohieaa", sum := "a963a7c7bfa5a6857cb0aed34f12f5d9e0333895fe8152690a392d0fc4dad775", func := "hotspot/hotspotlaw37.PeerRuns", spec := "peerRuns", apart := false }
def PeerRunsSaid : Prop := peerRunsRow.holds Try.pinned (OpenSpec.ofChange peerRunsSpec)

/-- ITS FALSE NEIGHBOUR: 'it returns false'. Refute it at one input. -/
def peerRunsWrong : ChangeSpec := { name := "peerRuns", fn := fun _ => fun
  | [d1, d2, d3] => { results := [.lit (.bool false)], args := [d1, d2, d3] }
  | _ => none }
def PeerRunsWrongFalsely : Prop := peerRunsRow.holds Try.pinned (OpenSpec.ofChange peerRunsWrong)

/-- 'hotspotlaw37.PeerMatches': WHATEVER THE INPUT: true; the input reads as it did. -/
def peerMatchesSpec : ChangeSpec := { name := "peerMatches", fn := fun _ => fun
  | [d1, d2, d3] => { results := [.lit (.bool true)], args := [d1, d2, d3] }
  | _ => none }
def peerMatchesRow : OpenClaim := { program := "ytmighkgjbohieaa", sum := "a963a7c7bfa5a6857cb0aed34f12f5d9e0333895fe8152690a392d0fc4dad775", func := "hotspot/hotspotlaw37.PeerMatches", spec := "peerMatches", apart := false }
def PeerMatchesSaid : Prop := peerMatchesRow.holds Try.pinned (OpenSpec.ofChange peerMatchesSpec)

/-- ITS FALSE NEIGHBOUR: 'it returns false'. Refute it at one input. -/
def peerMatchesWrong : ChangeSpec := { name := "peerMatches", fn := fun _ => fun
  | [d1, d2, d3] => { results := [.lit (.bool false)], args := [d1, d2, d3] }
  | _ => none }
def PeerMatchesWrongFalsely : Prop := peerMatchesRow.holds Try.pinned (OpenSpec.ofChange peerMatchesWrong)

/-- 'hotspotlaw37.PeerNames': WHATEVER THE INPUT: true; the input reads as it did. -/
def peerNamesSpec : ChangeSpec := { name := "peerNames", fn := fun _ => fun
  | [] => { results := [.lit (.bool true)], args := [] }
  | _ => none }
def peerNamesRow : OpenClaim := { program := "ytmighkgjbohieaa", sum := "a963a7c7bfa5a6857cb0aed34f12f5d9e0333895fe8152690a392d0fc4dad775", func := "hotspot/hotspotlaw37.PeerNames", spec := "peerNames", apart := false }
def PeerNamesSaid : Prop := peerNamesRow.holds Try.pinned (OpenSpec.ofChange peerNamesSpec)

/-- ITS FALSE NEIGHBOUR: 'it returns false'. Refute it at one input. -/
def peerNamesWrong : ChangeSpec := { name := "peerNames", fn := fun _ => fun
  | [] => { results := [.lit (.bool false)], args := [] }
  | _ => none }
def PeerNamesWrongFalsely : Prop := peerNamesRow.holds Try.pinned (OpenSpec.ofChange peerNamesWrong)

/- THE SECOND FORM. 'bulk': how many values and letters a reading holds, each counted each time it is reached (what is shared counts as often as it is met; a slice's spare places count too). A statement '..UptoSaid' is the law's where the arguments, and the package variables that the reading takes, are together of bulk at most 1048576: NARROWER than '..Said'. Prove '..Said' where nothing that the law and all that it calls make is longer than what came in: it says more and counts as full. Else prove '..UptoSaid'. A law counts once. -/
mutual
def uptoBulk {H : Type} : DataW H → Nat
  | .lit (.string bytes) => bytes.length + 1
  | .lit _ => 1
  | .nil => 1
  | .ptr d => uptoBulk d + 1
  | .slice elems spare => uptoBulkAll elems + uptoBulkAll spare + 1
  | .agg parts => uptoBulkAll parts + 1
  | .iface _ d => uptoBulk d + 1
  | .map entries => uptoBulkEntries entries + 1
  | .held _ => 1
def uptoBulkAll {H : Type} : List (DataW H) → Nat
  | [] => 0
  | d :: r => uptoBulk d + uptoBulkAll r
def uptoBulkEntries {H : Type} : List (Lit × DataW H) → Nat
  | [] => 0
  | x :: r => uptoBulkEntry x + uptoBulkEntries r
def uptoBulkEntry {H : Type} : Lit × DataW H → Nat
  | (.string bytes, d) => bytes.length + uptoBulk d + 1
  | (_, d) => uptoBulk d + 1
 end
def uptoSmall : (H : Type) → List (DataW H) → Bool := fun _ ds => decide (uptoBulkAll ds ≤ 1048576)
def OpenSpec.upto (s : _root_.Go.ChangeSpec) : _root_.Go.OpenSpec := { _root_.Go.OpenSpec.ofChange s with cond := some uptoSmall }

/-- 'hotspotlaw37.PeerPairs', WHERE WHAT IT READS IS OF BULK AT MOST 1048576: true; the input reads as it did. -/
def peerPairsUptoRow : OpenClaim := { program := "ytmighkgjbohieaa", sum := "a963a7c7bfa5a6857cb0aed34f12f5d9e0333895fe8152690a392d0fc4dad775", func := "hotspot/hotspotlaw37.PeerPairs", spec := "peerPairs", apart := false, narrowed := true }
def PeerPairsUptoSaid : Prop := peerPairsUptoRow.holds Try.pinned (OpenSpec.upto peerPairsSpec)

/-- 'hotspotlaw37.PeerSettles', WHERE WHAT IT READS IS OF BULK AT MOST 1048576: true; the input reads as it did. -/
def peerSettlesUptoRow : OpenClaim := { program := "ytmighkgjbohieaa", sum := "a963a7c7bfa5a6857cb0aed34f12f5d9e0333895fe8152690a392d0fc4dad775", func := "hotspot/hotspotlaw37.PeerSettles", spec := "peerSettles", apart := false, narrowed := true }
def PeerSettlesUptoSaid : Prop := peerSettlesUptoRow.holds Try.pinned (OpenSpec.upto peerSettlesSpec)

/-- 'hotspotlaw37.PeerRetries', WHERE WHAT IT READS IS OF BULK AT MOST 1048576: true; the input reads as it did. -/
def peerRetriesUptoRow : OpenClaim := { program := "ytmighkgjbohieaa", sum := "a963a7c7bfa5a6857cb0aed34f12f5d9e0333895fe8152690a392d0fc4dad775", func := "hotspot/hotspotlaw37.PeerRetries", spec := "peerRetries", apart := false, narrowed := true }
def PeerRetriesUptoSaid : Prop := peerRetriesUptoRow.holds Try.pinned (OpenSpec.upto peerRetriesSpec)

/-- 'hotspotlaw37.PeerLosses', WHERE WHAT IT READS IS OF BULK AT MOST 1048576: true; the input reads as it did. -/
def peerLossesUptoRow : OpenClaim := { program := "ytmighkgjbohieaa", sum := "a963a7c7bfa5a6857cb0aed34f12f5d9e0333895fe8152690a392d0fc4dad775", func := "hotspot/hotspotlaw37.PeerLosses", spec := "peerLosses", apart := false, narrowed := true }
def PeerLossesUptoSaid : Prop := peerLossesUptoRow.holds Try.pinned (OpenSpec.upto peerLossesSpec)

/-- 'hotspotlaw37.PeerRuns', WHERE WHAT IT READS IS OF BULK AT MOST 1048576: true; the input reads as it did. -/
def peerRunsUptoRow : OpenClaim := { program := "ytmighkgjbohieaa", sum := "a963a7c7bfa5a6857cb0aed34f12f5d9e0333895fe8152690a392d0fc4dad775", func := "hotspot/hotspotlaw37.PeerRuns", spec := "peerRuns", apart := false, narrowed := true }
def PeerRunsUptoSaid : Prop := peerRunsUptoRow.holds Try.pinned (OpenSpec.upto peerRunsSpec)

/-- 'hotspotlaw37.PeerMatches', WHERE WHAT IT READS IS OF BULK AT MOST 1048576: true; the input reads as it did. -/
def peerMatchesUptoRow : OpenClaim := { program := "ytmighkgjbohieaa", sum := "a963a7c7bfa5a6857cb0aed34f12f5d9e0333895fe8152690a392d0fc4dad775", func := "hotspot/hotspotlaw37.PeerMatches", spec := "peerMatches", apart := false, narrowed := true }
def PeerMatchesUptoSaid : Prop := peerMatchesUptoRow.holds Try.pinned (OpenSpec.upto peerMatchesSpec)

/-- 'hotspotlaw37.PeerNames', WHERE WHAT IT READS IS OF BULK AT MOST 1048576: true; the input reads as it did. -/
def peerNamesUptoRow : OpenClaim := { program := "ytmighkgjbohieaa", sum := "a963a7c7bfa5a6857cb0aed34f12f5d9e0333895fe8152690a392d0fc4dad775", func := "hotspot/hotspotlaw37.PeerNames", spec := "peerNames", apart := false, narrowed := true }
def PeerNamesUptoSaid : Prop := peerNamesUptoRow.holds Try.pinned (OpenSpec.upto peerNamesSpec)

end Rows
end Go.Proofs.Ytmighkgjbohieaa
