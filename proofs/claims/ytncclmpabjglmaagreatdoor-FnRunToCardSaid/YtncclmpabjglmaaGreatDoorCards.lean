/-
  DERIVED. GIVEN WITH THE SEED: THE CARDS: each row of YtncclmpabjglmaaGreatDoorRows.lean that lists a variable, with what it lists TIED to the program's text (the seventh form; the later family's looks); each row that meets fmt, with fmt's text TOLD by the authors' own Lean function (tested against real Go, not proved from fmt's source: count such statements apart). THE CARD IS WHAT COUNTS. Prove the row's statement (the work); the ties are given (YtncclmpabjglmaaGreatDoorTie.lean); close each card by the builder's one call (the guide's Derived/Test/ToyasCard.lean, 'card_holds'). Laid BY PROGRAM, IN A SANDBOX (cutbox-door.mjs). By AI agents, Wed Nov 11 2026. No macro, syntax, notation, axiom, sorry.
-/
import Derived.Test.YtncclmpabjglmaaGreatDoorRows
import GoSem.ClaimSeven
namespace Go.Proofs.YtncclmpabjglmaaGreatDoor
namespace Rows

/-- THE TIED CARD OF 'laws.FnPushed'. -/
def fnPushedCard : Claim7 := { stood := { row := fnPushedRow, standIns := [], harness := (true, "9e289ab50bdc895d2fd7df68951a9def0204cd4910b64d4c0b3d38009ba86fe8"), looks := false }, kinds := [], alts := [], laidByText := true, laidKinds := [.data, .data, .data, .data, .pinned, .pinned], laidTests := true, laidLooks := .later }
def FnPushedCardSaid : Prop := Claim7.holds Tryz.pinned (.plain (OpenSpec.ofChange fnPushedSpec)) fnPushedCard

/-- THE TIED CARD OF 'laws.FnCalls'. -/
def fnCallsCard : Claim7 := { stood := { row := fnCallsRow, standIns := [], harness := (true, "9e289ab50bdc895d2fd7df68951a9def0204cd4910b64d4c0b3d38009ba86fe8"), looks := false }, kinds := [], alts := [], laidByText := true, laidKinds := [.data, .data, .data, .data, .pinned, .pinned], laidTests := true, laidLooks := .later }
def FnCallsCardSaid : Prop := Claim7.holds Tryz.pinned (.plain (OpenSpec.ofChange fnCallsSpec)) fnCallsCard

/-- THE TIED CARD OF 'laws.FnSum'. -/
def fnSumCard : Claim7 := { stood := { row := fnSumRow, standIns := [], harness := (true, "9e289ab50bdc895d2fd7df68951a9def0204cd4910b64d4c0b3d38009ba86fe8"), looks := false }, kinds := [], alts := [], laidByText := true, laidKinds := [.data, .data, .data, .data, .pinned, .pinned], laidTests := true, laidLooks := .later }
def FnSumCardSaid : Prop := Claim7.holds Tryz.pinned (.plain (OpenSpec.ofChange fnSumSpec)) fnSumCard

/-- THE TIED CARD OF 'laws.FnHere'. -/
def fnHereCard : Claim7 := { stood := { row := fnHereRow, standIns := [], harness := (true, "9e289ab50bdc895d2fd7df68951a9def0204cd4910b64d4c0b3d38009ba86fe8"), looks := false }, kinds := [], alts := [], laidByText := true, laidKinds := [.data, .data, .data, .data, .pinned, .pinned], laidTests := true, laidLooks := .later }
def FnHereCardSaid : Prop := Claim7.holds Tryz.pinned (.plain (OpenSpec.ofChange fnHereSpec)) fnHereCard

/-- THE TIED CARD OF 'laws.FnExactStep'. -/
def fnExactStepCard : Claim7 := { stood := { row := fnExactStepRow, standIns := [], harness := (true, "9e289ab50bdc895d2fd7df68951a9def0204cd4910b64d4c0b3d38009ba86fe8"), looks := false }, kinds := [], alts := [], laidByText := true, laidKinds := [.data, .data, .data, .data, .pinned, .pinned], laidTests := true, laidLooks := .later }
def FnExactStepCardSaid : Prop := Claim7.holds Tryz.pinned (.plain (OpenSpec.ofChange fnExactStepSpec)) fnExactStepCard

/-- THE TIED CARD OF 'laws.FnStepOk'. -/
def fnStepOkCard : Claim7 := { stood := { row := fnStepOkRow, standIns := [], harness := (true, "9e289ab50bdc895d2fd7df68951a9def0204cd4910b64d4c0b3d38009ba86fe8"), looks := false }, kinds := [], alts := [], laidByText := true, laidKinds := [.data, .data, .data, .data, .pinned, .pinned], laidTests := true, laidLooks := .later }
def FnStepOkCardSaid : Prop := Claim7.holds Tryz.pinned (.plain (OpenSpec.ofChange fnStepOkSpec)) fnStepOkCard

/-- THE TIED CARD OF 'laws.FnRunPieces'. -/
def fnRunPiecesCard : Claim7 := { stood := { row := fnRunPiecesRow, standIns := [], harness := (true, "9e289ab50bdc895d2fd7df68951a9def0204cd4910b64d4c0b3d38009ba86fe8"), looks := false }, kinds := [], alts := [], laidByText := true, laidKinds := [.data, .data, .data, .data, .pinned, .pinned], laidTests := true, laidLooks := .later }
def FnRunPiecesCardSaid : Prop := Claim7.holds Tryz.pinned (.plain (OpenSpec.ofChange fnRunPiecesSpec)) fnRunPiecesCard

/-- THE TIED CARD OF 'laws.FnExactRunFor'. -/
def fnExactRunForCard : Claim7 := { stood := { row := fnExactRunForRow, standIns := [], harness := (true, "9e289ab50bdc895d2fd7df68951a9def0204cd4910b64d4c0b3d38009ba86fe8"), looks := false }, kinds := [], alts := [], laidByText := true, laidKinds := [.data, .data, .data, .data, .pinned, .pinned], laidTests := true, laidLooks := .later }
def FnExactRunForCardSaid : Prop := Claim7.holds Tryz.pinned (.plain (OpenSpec.ofChange fnExactRunForSpec)) fnExactRunForCard

/-- THE TIED CARD OF 'laws.FnRunTo'. -/
def fnRunToCard : Claim7 := { stood := { row := fnRunToRow, standIns := [], harness := (true, "9e289ab50bdc895d2fd7df68951a9def0204cd4910b64d4c0b3d38009ba86fe8"), looks := false }, kinds := [], alts := [], laidByText := true, laidKinds := [.data, .data, .data, .data, .pinned, .pinned], laidTests := true, laidLooks := .later }
def FnRunToCardSaid : Prop := Claim7.holds Tryz.pinned (.plain (OpenSpec.ofChange fnRunToSpec)) fnRunToCard

/-- THE TIED CARD OF 'laws.FnExactRunTo'. -/
def fnExactRunToCard : Claim7 := { stood := { row := fnExactRunToRow, standIns := [], harness := (true, "9e289ab50bdc895d2fd7df68951a9def0204cd4910b64d4c0b3d38009ba86fe8"), looks := false }, kinds := [], alts := [], laidByText := true, laidKinds := [.data, .data, .data, .data, .pinned, .pinned], laidTests := true, laidLooks := .later }
def FnExactRunToCardSaid : Prop := Claim7.holds Tryz.pinned (.plain (OpenSpec.ofChange fnExactRunToSpec)) fnExactRunToCard

/-- THE TIED CARD OF 'laws.FnTrace'. -/
def fnTraceCard : Claim7 := { stood := { row := fnTraceRow, standIns := [], harness := (true, "9e289ab50bdc895d2fd7df68951a9def0204cd4910b64d4c0b3d38009ba86fe8"), looks := false }, kinds := [], alts := [], laidByText := true, laidKinds := [.data, .data, .data, .data, .pinned, .pinned], laidTests := true, laidLooks := .later }
def FnTraceCardSaid : Prop := Claim7.holds Tryz.pinned (.plain (OpenSpec.ofChange fnTraceSpec)) fnTraceCard

/-- THE TIED CARD OF 'laws.FnExactTraceOf'. -/
def fnExactTraceOfCard : Claim7 := { stood := { row := fnExactTraceOfRow, standIns := [], harness := (true, "9e289ab50bdc895d2fd7df68951a9def0204cd4910b64d4c0b3d38009ba86fe8"), looks := false }, kinds := [], alts := [], laidByText := true, laidKinds := [.data, .data, .data, .data, .pinned, .pinned], laidTests := true, laidLooks := .later }
def FnExactTraceOfCardSaid : Prop := Claim7.holds Tryz.pinned (.plain (OpenSpec.ofChange fnExactTraceOfSpec)) fnExactTraceOfCard

/-- THE SECOND FORM's CARD OF 'laws.FnPushed'. -/
def fnPushedUptoCard : Claim7 := { stood := { row := fnPushedUptoRow, standIns := [], harness := (true, "9e289ab50bdc895d2fd7df68951a9def0204cd4910b64d4c0b3d38009ba86fe8"), looks := false }, kinds := [], alts := [], laidByText := true, laidKinds := [.data, .data, .data, .data, .pinned, .pinned], laidTests := true, laidLooks := .later }
def FnPushedUptoCardSaid : Prop := Claim7.holds Tryz.pinned (.plain (OpenSpec.upto fnPushedSpec)) fnPushedUptoCard

/-- THE SECOND FORM's CARD OF 'laws.FnCalls'. -/
def fnCallsUptoCard : Claim7 := { stood := { row := fnCallsUptoRow, standIns := [], harness := (true, "9e289ab50bdc895d2fd7df68951a9def0204cd4910b64d4c0b3d38009ba86fe8"), looks := false }, kinds := [], alts := [], laidByText := true, laidKinds := [.data, .data, .data, .data, .pinned, .pinned], laidTests := true, laidLooks := .later }
def FnCallsUptoCardSaid : Prop := Claim7.holds Tryz.pinned (.plain (OpenSpec.upto fnCallsSpec)) fnCallsUptoCard

/-- THE SECOND FORM's CARD OF 'laws.FnSum'. -/
def fnSumUptoCard : Claim7 := { stood := { row := fnSumUptoRow, standIns := [], harness := (true, "9e289ab50bdc895d2fd7df68951a9def0204cd4910b64d4c0b3d38009ba86fe8"), looks := false }, kinds := [], alts := [], laidByText := true, laidKinds := [.data, .data, .data, .data, .pinned, .pinned], laidTests := true, laidLooks := .later }
def FnSumUptoCardSaid : Prop := Claim7.holds Tryz.pinned (.plain (OpenSpec.upto fnSumSpec)) fnSumUptoCard

/-- THE SECOND FORM's CARD OF 'laws.FnHere'. -/
def fnHereUptoCard : Claim7 := { stood := { row := fnHereUptoRow, standIns := [], harness := (true, "9e289ab50bdc895d2fd7df68951a9def0204cd4910b64d4c0b3d38009ba86fe8"), looks := false }, kinds := [], alts := [], laidByText := true, laidKinds := [.data, .data, .data, .data, .pinned, .pinned], laidTests := true, laidLooks := .later }
def FnHereUptoCardSaid : Prop := Claim7.holds Tryz.pinned (.plain (OpenSpec.upto fnHereSpec)) fnHereUptoCard

/-- THE SECOND FORM's CARD OF 'laws.FnExactStep'. -/
def fnExactStepUptoCard : Claim7 := { stood := { row := fnExactStepUptoRow, standIns := [], harness := (true, "9e289ab50bdc895d2fd7df68951a9def0204cd4910b64d4c0b3d38009ba86fe8"), looks := false }, kinds := [], alts := [], laidByText := true, laidKinds := [.data, .data, .data, .data, .pinned, .pinned], laidTests := true, laidLooks := .later }
def FnExactStepUptoCardSaid : Prop := Claim7.holds Tryz.pinned (.plain (OpenSpec.upto fnExactStepSpec)) fnExactStepUptoCard

/-- THE SECOND FORM's CARD OF 'laws.FnStepOk'. -/
def fnStepOkUptoCard : Claim7 := { stood := { row := fnStepOkUptoRow, standIns := [], harness := (true, "9e289ab50bdc895d2fd7df68951a9def0204cd4910b64d4c0b3d38009ba86fe8"), looks := false }, kinds := [], alts := [], laidByText := true, laidKinds := [.data, .data, .data, .data, .pinned, .pinned], laidTests := true, laidLooks := .later }
def FnStepOkUptoCardSaid : Prop := Claim7.holds Tryz.pinned (.plain (OpenSpec.upto fnStepOkSpec)) fnStepOkUptoCard

/-- THE SECOND FORM's CARD OF 'laws.FnRunPieces'. -/
def fnRunPiecesUptoCard : Claim7 := { stood := { row := fnRunPiecesUptoRow, standIns := [], harness := (true, "9e289ab50bdc895d2fd7df68951a9def0204cd4910b64d4c0b3d38009ba86fe8"), looks := false }, kinds := [], alts := [], laidByText := true, laidKinds := [.data, .data, .data, .data, .pinned, .pinned], laidTests := true, laidLooks := .later }
def FnRunPiecesUptoCardSaid : Prop := Claim7.holds Tryz.pinned (.plain (OpenSpec.upto fnRunPiecesSpec)) fnRunPiecesUptoCard

/-- THE SECOND FORM's CARD OF 'laws.FnExactRunFor'. -/
def fnExactRunForUptoCard : Claim7 := { stood := { row := fnExactRunForUptoRow, standIns := [], harness := (true, "9e289ab50bdc895d2fd7df68951a9def0204cd4910b64d4c0b3d38009ba86fe8"), looks := false }, kinds := [], alts := [], laidByText := true, laidKinds := [.data, .data, .data, .data, .pinned, .pinned], laidTests := true, laidLooks := .later }
def FnExactRunForUptoCardSaid : Prop := Claim7.holds Tryz.pinned (.plain (OpenSpec.upto fnExactRunForSpec)) fnExactRunForUptoCard

/-- THE SECOND FORM's CARD OF 'laws.FnRunTo'. -/
def fnRunToUptoCard : Claim7 := { stood := { row := fnRunToUptoRow, standIns := [], harness := (true, "9e289ab50bdc895d2fd7df68951a9def0204cd4910b64d4c0b3d38009ba86fe8"), looks := false }, kinds := [], alts := [], laidByText := true, laidKinds := [.data, .data, .data, .data, .pinned, .pinned], laidTests := true, laidLooks := .later }
def FnRunToUptoCardSaid : Prop := Claim7.holds Tryz.pinned (.plain (OpenSpec.upto fnRunToSpec)) fnRunToUptoCard

/-- THE SECOND FORM's CARD OF 'laws.FnExactRunTo'. -/
def fnExactRunToUptoCard : Claim7 := { stood := { row := fnExactRunToUptoRow, standIns := [], harness := (true, "9e289ab50bdc895d2fd7df68951a9def0204cd4910b64d4c0b3d38009ba86fe8"), looks := false }, kinds := [], alts := [], laidByText := true, laidKinds := [.data, .data, .data, .data, .pinned, .pinned], laidTests := true, laidLooks := .later }
def FnExactRunToUptoCardSaid : Prop := Claim7.holds Tryz.pinned (.plain (OpenSpec.upto fnExactRunToSpec)) fnExactRunToUptoCard

/-- THE SECOND FORM's CARD OF 'laws.FnTrace'. -/
def fnTraceUptoCard : Claim7 := { stood := { row := fnTraceUptoRow, standIns := [], harness := (true, "9e289ab50bdc895d2fd7df68951a9def0204cd4910b64d4c0b3d38009ba86fe8"), looks := false }, kinds := [], alts := [], laidByText := true, laidKinds := [.data, .data, .data, .data, .pinned, .pinned], laidTests := true, laidLooks := .later }
def FnTraceUptoCardSaid : Prop := Claim7.holds Tryz.pinned (.plain (OpenSpec.upto fnTraceSpec)) fnTraceUptoCard

/-- THE SECOND FORM's CARD OF 'laws.FnExactTraceOf'. -/
def fnExactTraceOfUptoCard : Claim7 := { stood := { row := fnExactTraceOfUptoRow, standIns := [], harness := (true, "9e289ab50bdc895d2fd7df68951a9def0204cd4910b64d4c0b3d38009ba86fe8"), looks := false }, kinds := [], alts := [], laidByText := true, laidKinds := [.data, .data, .data, .data, .pinned, .pinned], laidTests := true, laidLooks := .later }
def FnExactTraceOfUptoCardSaid : Prop := Claim7.holds Tryz.pinned (.plain (OpenSpec.upto fnExactTraceOfSpec)) fnExactTraceOfUptoCard
end Rows
end Go.Proofs.YtncclmpabjglmaaGreatDoor
