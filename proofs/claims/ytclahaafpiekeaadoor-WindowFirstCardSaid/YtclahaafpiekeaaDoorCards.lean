/-
  DERIVED. GIVEN WITH THE SEED: THE CARDS: each row of YtclahaafpiekeaaDoorRows.lean that lists a variable, with what it lists TIED to the program's text (the seventh form; the later family's looks); each row that meets fmt, with fmt's text TOLD by the authors' own Lean function (tested against real Go, not proved from fmt's source: count such statements apart). THE CARD IS WHAT COUNTS. Prove the row's statement (the work); the ties are given (YtclahaafpiekeaaDoorTie.lean); close each card by the builder's one call (the guide's Derived/Test/ToyasCard.lean, 'card_holds'). Laid BY PROGRAM, IN A SANDBOX (cutbox-door.mjs). By AI agents, Wed Nov 11 2026. No macro, syntax, notation, axiom, sorry.
-/
import Derived.Test.YtclahaafpiekeaaDoorRows
import GoSem.ClaimSeven
namespace Go.Proofs.YtclahaafpiekeaaDoor
namespace Rows

/-- THE TIED CARD OF 'hotspotlaw17.WindowGroup'. -/
def windowGroupCard : Claim7 := { stood := { row := windowGroupRow, standIns := [], harness := (true, "156187ef02530d0c4a67d9078503842c0996b042f339e4837a8512e39127fed9"), looks := false }, kinds := [], alts := [], laidByText := true, laidKinds := [.data], laidTests := true, laidLooks := .later }
def WindowGroupCardSaid : Prop := Claim7.holds Tryd.pinned (.plain (OpenSpec.ofChange windowGroupSpec)) windowGroupCard

/-- THE TIED CARD OF 'hotspotlaw17.WindowNames'. -/
def windowNamesCard : Claim7 := { stood := { row := windowNamesRow, standIns := [], harness := (true, "156187ef02530d0c4a67d9078503842c0996b042f339e4837a8512e39127fed9"), looks := false }, kinds := [], alts := [], laidByText := true, laidKinds := [.data], laidTests := true, laidLooks := .later }
def WindowNamesCardSaid : Prop := Claim7.holds Tryd.pinned (.plain (OpenSpec.ofChange windowNamesSpec)) windowNamesCard

/-- THE TIED CARD OF 'hotspotlaw17.WindowOrder'. -/
def windowOrderCard : Claim7 := { stood := { row := windowOrderRow, standIns := [], harness := (true, "156187ef02530d0c4a67d9078503842c0996b042f339e4837a8512e39127fed9"), looks := false }, kinds := [], alts := [], laidByText := true, laidKinds := [.data], laidTests := true, laidLooks := .later }
def WindowOrderCardSaid : Prop := Claim7.holds Tryd.pinned (.plain (OpenSpec.ofChange windowOrderSpec)) windowOrderCard

/-- THE TIED CARD OF 'hotspotlaw17.WindowMoves'. -/
def windowMovesCard : Claim7 := { stood := { row := windowMovesRow, standIns := [], harness := (true, "156187ef02530d0c4a67d9078503842c0996b042f339e4837a8512e39127fed9"), looks := false }, kinds := [], alts := [], laidByText := true, laidKinds := [.data], laidTests := true, laidLooks := .later }
def WindowMovesCardSaid : Prop := Claim7.holds Tryd.pinned (.plain (OpenSpec.ofChange windowMovesSpec)) windowMovesCard

/-- THE TIED CARD OF 'hotspotlaw17.WindowFirst'. -/
def windowFirstCard : Claim7 := { stood := { row := windowFirstRow, standIns := [], harness := (true, "156187ef02530d0c4a67d9078503842c0996b042f339e4837a8512e39127fed9"), looks := false }, kinds := [], alts := [], laidByText := true, laidKinds := [.data], laidTests := true, laidLooks := .later }
def WindowFirstCardSaid : Prop := Claim7.holds Tryd.pinned (.plain (OpenSpec.ofChange windowFirstSpec)) windowFirstCard

/-- THE SECOND FORM's CARD OF 'hotspotlaw17.WindowGroup'. -/
def windowGroupUptoCard : Claim7 := { stood := { row := windowGroupUptoRow, standIns := [], harness := (true, "156187ef02530d0c4a67d9078503842c0996b042f339e4837a8512e39127fed9"), looks := false }, kinds := [], alts := [], laidByText := true, laidKinds := [.data], laidTests := true, laidLooks := .later }
def WindowGroupUptoCardSaid : Prop := Claim7.holds Tryd.pinned (.plain (OpenSpec.upto windowGroupSpec)) windowGroupUptoCard

/-- THE SECOND FORM's CARD OF 'hotspotlaw17.WindowNames'. -/
def windowNamesUptoCard : Claim7 := { stood := { row := windowNamesUptoRow, standIns := [], harness := (true, "156187ef02530d0c4a67d9078503842c0996b042f339e4837a8512e39127fed9"), looks := false }, kinds := [], alts := [], laidByText := true, laidKinds := [.data], laidTests := true, laidLooks := .later }
def WindowNamesUptoCardSaid : Prop := Claim7.holds Tryd.pinned (.plain (OpenSpec.upto windowNamesSpec)) windowNamesUptoCard

/-- THE SECOND FORM's CARD OF 'hotspotlaw17.WindowOrder'. -/
def windowOrderUptoCard : Claim7 := { stood := { row := windowOrderUptoRow, standIns := [], harness := (true, "156187ef02530d0c4a67d9078503842c0996b042f339e4837a8512e39127fed9"), looks := false }, kinds := [], alts := [], laidByText := true, laidKinds := [.data], laidTests := true, laidLooks := .later }
def WindowOrderUptoCardSaid : Prop := Claim7.holds Tryd.pinned (.plain (OpenSpec.upto windowOrderSpec)) windowOrderUptoCard

/-- THE SECOND FORM's CARD OF 'hotspotlaw17.WindowMoves'. -/
def windowMovesUptoCard : Claim7 := { stood := { row := windowMovesUptoRow, standIns := [], harness := (true, "156187ef02530d0c4a67d9078503842c0996b042f339e4837a8512e39127fed9"), looks := false }, kinds := [], alts := [], laidByText := true, laidKinds := [.data], laidTests := true, laidLooks := .later }
def WindowMovesUptoCardSaid : Prop := Claim7.holds Tryd.pinned (.plain (OpenSpec.upto windowMovesSpec)) windowMovesUptoCard

/-- THE SECOND FORM's CARD OF 'hotspotlaw17.WindowFirst'. -/
def windowFirstUptoCard : Claim7 := { stood := { row := windowFirstUptoRow, standIns := [], harness := (true, "156187ef02530d0c4a67d9078503842c0996b042f339e4837a8512e39127fed9"), looks := false }, kinds := [], alts := [], laidByText := true, laidKinds := [.data], laidTests := true, laidLooks := .later }
def WindowFirstUptoCardSaid : Prop := Claim7.holds Tryd.pinned (.plain (OpenSpec.upto windowFirstSpec)) windowFirstUptoCard
end Rows
end Go.Proofs.YtclahaafpiekeaaDoor
