/-
  DERIVED. GIVEN WITH THE SEED: THE CARDS: each row of YtdmaekiejdahoaaDoorRows.lean that lists a variable, with what it lists TIED to the program's text (the seventh form; the later family's looks); each row that meets fmt, with fmt's text TOLD by the authors' own Lean function (tested against real Go, not proved from fmt's source: count such statements apart). THE CARD IS WHAT COUNTS. Prove the row's statement (the work); the ties are given (YtdmaekiejdahoaaDoorTie.lean); close each card by the builder's one call (the guide's Derived/Test/ToyasCard.lean, 'card_holds'). Laid BY PROGRAM, IN A SANDBOX (cutbox-door.mjs). By AI agents, Wed Nov 11 2026. No macro, syntax, notation, axiom, sorry.
-/
import Derived.Test.YtdmaekiejdahoaaDoorRows
import GoSem.ClaimSeven
namespace Go.Proofs.YtdmaekiejdahoaaDoor
namespace Rows

/-- THE TIED CARD OF 'hotspotlaw13.DeferralTells'. -/
def deferralTellsCard : Claim7 := { stood := { row := deferralTellsRow, standIns := [], harness := (true, "2a425847b9d0bacbacd4954833cdbfa6cfb25a7639d6e35aa2feb9670ae1b637"), looks := false }, kinds := [], alts := [], laidByText := true, laidKinds := [.data], laidTests := true, laidLooks := .later }
def DeferralTellsCardSaid : Prop := Claim7.holds Tryd.pinned (.plain (OpenSpec.ofChange deferralTellsSpec)) deferralTellsCard

/-- THE TIED CARD OF 'hotspotlaw13.DeferralFolds'. -/
def deferralFoldsCard : Claim7 := { stood := { row := deferralFoldsRow, standIns := [], harness := (true, "2a425847b9d0bacbacd4954833cdbfa6cfb25a7639d6e35aa2feb9670ae1b637"), looks := false }, kinds := [], alts := [], laidByText := true, laidKinds := [.data, .data], laidTests := true, laidLooks := .later }
def DeferralFoldsCardSaid : Prop := Claim7.holds Tryd.pinned (.plain (OpenSpec.ofChange deferralFoldsSpec)) deferralFoldsCard

/-- THE TIED CARD OF 'hotspotlaw13.DeferralKeeps'. -/
def deferralKeepsCard : Claim7 := { stood := { row := deferralKeepsRow, standIns := [], harness := (true, "2a425847b9d0bacbacd4954833cdbfa6cfb25a7639d6e35aa2feb9670ae1b637"), looks := false }, kinds := [], alts := [], laidByText := true, laidKinds := [.data, .data], laidTests := true, laidLooks := .later }
def DeferralKeepsCardSaid : Prop := Claim7.holds Tryd.pinned (.plain (OpenSpec.ofChange deferralKeepsSpec)) deferralKeepsCard

/-- THE TIED CARD OF 'hotspotlaw13.DeferralOrder'. -/
def deferralOrderCard : Claim7 := { stood := { row := deferralOrderRow, standIns := [], harness := (true, "2a425847b9d0bacbacd4954833cdbfa6cfb25a7639d6e35aa2feb9670ae1b637"), looks := false }, kinds := [], alts := [], laidByText := true, laidKinds := [.data, .data], laidTests := true, laidLooks := .later }
def DeferralOrderCardSaid : Prop := Claim7.holds Tryd.pinned (.plain (OpenSpec.ofChange deferralOrderSpec)) deferralOrderCard

/-- THE TIED CARD OF 'hotspotlaw13.DeferralNames'. -/
def deferralNamesCard : Claim7 := { stood := { row := deferralNamesRow, standIns := [], harness := (true, "2a425847b9d0bacbacd4954833cdbfa6cfb25a7639d6e35aa2feb9670ae1b637"), looks := false }, kinds := [], alts := [], laidByText := true, laidKinds := [.data, .data], laidTests := true, laidLooks := .later }
def DeferralNamesCardSaid : Prop := Claim7.holds Tryd.pinned (.plain (OpenSpec.ofChange deferralNamesSpec)) deferralNamesCard

/-- THE SECOND FORM's CARD OF 'hotspotlaw13.DeferralTells'. -/
def deferralTellsUptoCard : Claim7 := { stood := { row := deferralTellsUptoRow, standIns := [], harness := (true, "2a425847b9d0bacbacd4954833cdbfa6cfb25a7639d6e35aa2feb9670ae1b637"), looks := false }, kinds := [], alts := [], laidByText := true, laidKinds := [.data], laidTests := true, laidLooks := .later }
def DeferralTellsUptoCardSaid : Prop := Claim7.holds Tryd.pinned (.plain (OpenSpec.upto deferralTellsSpec)) deferralTellsUptoCard

/-- THE SECOND FORM's CARD OF 'hotspotlaw13.DeferralFolds'. -/
def deferralFoldsUptoCard : Claim7 := { stood := { row := deferralFoldsUptoRow, standIns := [], harness := (true, "2a425847b9d0bacbacd4954833cdbfa6cfb25a7639d6e35aa2feb9670ae1b637"), looks := false }, kinds := [], alts := [], laidByText := true, laidKinds := [.data, .data], laidTests := true, laidLooks := .later }
def DeferralFoldsUptoCardSaid : Prop := Claim7.holds Tryd.pinned (.plain (OpenSpec.upto deferralFoldsSpec)) deferralFoldsUptoCard

/-- THE SECOND FORM's CARD OF 'hotspotlaw13.DeferralKeeps'. -/
def deferralKeepsUptoCard : Claim7 := { stood := { row := deferralKeepsUptoRow, standIns := [], harness := (true, "2a425847b9d0bacbacd4954833cdbfa6cfb25a7639d6e35aa2feb9670ae1b637"), looks := false }, kinds := [], alts := [], laidByText := true, laidKinds := [.data, .data], laidTests := true, laidLooks := .later }
def DeferralKeepsUptoCardSaid : Prop := Claim7.holds Tryd.pinned (.plain (OpenSpec.upto deferralKeepsSpec)) deferralKeepsUptoCard

/-- THE SECOND FORM's CARD OF 'hotspotlaw13.DeferralOrder'. -/
def deferralOrderUptoCard : Claim7 := { stood := { row := deferralOrderUptoRow, standIns := [], harness := (true, "2a425847b9d0bacbacd4954833cdbfa6cfb25a7639d6e35aa2feb9670ae1b637"), looks := false }, kinds := [], alts := [], laidByText := true, laidKinds := [.data, .data], laidTests := true, laidLooks := .later }
def DeferralOrderUptoCardSaid : Prop := Claim7.holds Tryd.pinned (.plain (OpenSpec.upto deferralOrderSpec)) deferralOrderUptoCard

/-- THE SECOND FORM's CARD OF 'hotspotlaw13.DeferralNames'. -/
def deferralNamesUptoCard : Claim7 := { stood := { row := deferralNamesUptoRow, standIns := [], harness := (true, "2a425847b9d0bacbacd4954833cdbfa6cfb25a7639d6e35aa2feb9670ae1b637"), looks := false }, kinds := [], alts := [], laidByText := true, laidKinds := [.data, .data], laidTests := true, laidLooks := .later }
def DeferralNamesUptoCardSaid : Prop := Claim7.holds Tryd.pinned (.plain (OpenSpec.upto deferralNamesSpec)) deferralNamesUptoCard
end Rows
end Go.Proofs.YtdmaekiejdahoaaDoor
