/-
  DERIVED. GIVEN WITH THE SEED: THE CARDS: each row of YtclapampnmjmoaaGreatDoorRows.lean that lists a variable, with what it lists TIED to the program's text (the seventh form; the later family's looks); each row that meets fmt, with fmt's text TOLD by the authors' own Lean function (tested against real Go, not proved from fmt's source: count such statements apart). THE CARD IS WHAT COUNTS. Prove the row's statement (the work); the ties are given (YtclapampnmjmoaaGreatDoorTie.lean); close each card by the builder's one call (the guide's Derived/Test/ToyasCard.lean, 'card_holds'). Laid BY PROGRAM, IN A SANDBOX (cutbox-door.mjs). By AI agents, Wed Nov 11 2026. No macro, syntax, notation, axiom, sorry.
-/
import Derived.Test.YtclapampnmjmoaaGreatDoorRows
import GoSem.ClaimSeven
namespace Go.Proofs.YtclapampnmjmoaaGreatDoor
namespace Rows

/-- THE TIED CARD OF 'laws.FnExactExpanded'. -/
def fnExactExpandedCard : Claim7 := { stood := { row := fnExactExpandedRow, standIns := [], harness := (true, "374006e07154c41ae322a43831771d20a0ebed477fc4d90510b33cdb6319ebf7"), looks := false }, kinds := [], alts := [], laidByText := true, laidKinds := [.data, .pinned], laidTests := true, laidLooks := .later }
def FnExactExpandedCardSaid : Prop := Claim7.holds Tryz.pinned (.plain (OpenSpec.ofChange fnExactExpandedSpec)) fnExactExpandedCard

/-- THE TIED CARD OF 'laws.FnMacros'. -/
def fnMacrosCard : Claim7 := { stood := { row := fnMacrosRow, standIns := [], harness := (true, "374006e07154c41ae322a43831771d20a0ebed477fc4d90510b33cdb6319ebf7"), looks := false }, kinds := [], alts := [], laidByText := true, laidKinds := [.data, .pinned], laidTests := true, laidLooks := .later }
def FnMacrosCardSaid : Prop := Claim7.holds Tryz.pinned (.plain (OpenSpec.ofChange fnMacrosSpec)) fnMacrosCard

/-- THE TIED CARD OF 'laws.FnRepeated'. -/
def fnRepeatedCard : Claim7 := { stood := { row := fnRepeatedRow, standIns := [], harness := (true, "374006e07154c41ae322a43831771d20a0ebed477fc4d90510b33cdb6319ebf7"), looks := false }, kinds := [], alts := [], laidByText := true, laidKinds := [.data, .pinned], laidTests := true, laidLooks := .later }
def FnRepeatedCardSaid : Prop := Claim7.holds Tryz.pinned (.plain (OpenSpec.ofChange fnRepeatedSpec)) fnRepeatedCard

/-- THE TIED CARD OF 'laws.FnExpanded'. -/
def fnExpandedCard : Claim7 := { stood := { row := fnExpandedRow, standIns := [], harness := (true, "374006e07154c41ae322a43831771d20a0ebed477fc4d90510b33cdb6319ebf7"), looks := false }, kinds := [], alts := [], laidByText := true, laidKinds := [.data, .pinned], laidTests := true, laidLooks := .later }
def FnExpandedCardSaid : Prop := Claim7.holds Tryz.pinned (.plain (OpenSpec.ofChange fnExpandedSpec)) fnExpandedCard

/-- THE SECOND FORM's CARD OF 'laws.FnExactExpanded'. -/
def fnExactExpandedUptoCard : Claim7 := { stood := { row := fnExactExpandedUptoRow, standIns := [], harness := (true, "374006e07154c41ae322a43831771d20a0ebed477fc4d90510b33cdb6319ebf7"), looks := false }, kinds := [], alts := [], laidByText := true, laidKinds := [.data, .pinned], laidTests := true, laidLooks := .later }
def FnExactExpandedUptoCardSaid : Prop := Claim7.holds Tryz.pinned (.plain (OpenSpec.upto fnExactExpandedSpec)) fnExactExpandedUptoCard

/-- THE SECOND FORM's CARD OF 'laws.FnMacros'. -/
def fnMacrosUptoCard : Claim7 := { stood := { row := fnMacrosUptoRow, standIns := [], harness := (true, "374006e07154c41ae322a43831771d20a0ebed477fc4d90510b33cdb6319ebf7"), looks := false }, kinds := [], alts := [], laidByText := true, laidKinds := [.data, .pinned], laidTests := true, laidLooks := .later }
def FnMacrosUptoCardSaid : Prop := Claim7.holds Tryz.pinned (.plain (OpenSpec.upto fnMacrosSpec)) fnMacrosUptoCard

/-- THE SECOND FORM's CARD OF 'laws.FnRepeated'. -/
def fnRepeatedUptoCard : Claim7 := { stood := { row := fnRepeatedUptoRow, standIns := [], harness := (true, "374006e07154c41ae322a43831771d20a0ebed477fc4d90510b33cdb6319ebf7"), looks := false }, kinds := [], alts := [], laidByText := true, laidKinds := [.data, .pinned], laidTests := true, laidLooks := .later }
def FnRepeatedUptoCardSaid : Prop := Claim7.holds Tryz.pinned (.plain (OpenSpec.upto fnRepeatedSpec)) fnRepeatedUptoCard

/-- THE SECOND FORM's CARD OF 'laws.FnExpanded'. -/
def fnExpandedUptoCard : Claim7 := { stood := { row := fnExpandedUptoRow, standIns := [], harness := (true, "374006e07154c41ae322a43831771d20a0ebed477fc4d90510b33cdb6319ebf7"), looks := false }, kinds := [], alts := [], laidByText := true, laidKinds := [.data, .pinned], laidTests := true, laidLooks := .later }
def FnExpandedUptoCardSaid : Prop := Claim7.holds Tryz.pinned (.plain (OpenSpec.upto fnExpandedSpec)) fnExpandedUptoCard
end Rows
end Go.Proofs.YtclapampnmjmoaaGreatDoor
