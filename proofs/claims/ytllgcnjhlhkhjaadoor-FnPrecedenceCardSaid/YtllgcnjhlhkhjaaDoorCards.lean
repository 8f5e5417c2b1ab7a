/-
  DERIVED. GIVEN WITH THE SEED: THE CARDS: each row of YtllgcnjhlhkhjaaDoorRows.lean that lists a variable, with what it lists TIED to the program's text (the seventh form; the later family's looks); each row that meets fmt, with fmt's text TOLD by the authors' own Lean function (tested against real Go, not proved from fmt's source: count such statements apart). THE CARD IS WHAT COUNTS. Prove the row's statement (the work); the ties are given (YtllgcnjhlhkhjaaDoorTie.lean); close each card by the builder's one call (the guide's Derived/Test/ToyasCard.lean, 'card_holds'). Laid BY PROGRAM, IN A SANDBOX (cutbox-door.mjs). By AI agents, Wed Nov 11 2026. No macro, syntax, notation, axiom, sorry.
-/
import Derived.Test.YtllgcnjhlhkhjaaDoorRows
import GoSem.ClaimSeven
namespace Go.Proofs.YtllgcnjhlhkhjaaDoor
namespace Rows

/-- THE TIED CARD OF 'laws.FnExactCompiled'. -/
def fnExactCompiledCard : Claim7 := { stood := { row := fnExactCompiledRow, standIns := [], harness := (true, "ec01e8d38d0289a10cc945b8458847afb4b09cedfe56573f66de0e6550dc9251"), looks := false }, kinds := [], alts := [], laidByText := true, laidKinds := [.data, .pinned], laidTests := true, laidLooks := .later }
def FnExactCompiledCardSaid : Prop := Claim7.holds Tryd.pinned (.plain (OpenSpec.ofChange fnExactCompiledSpec)) fnExactCompiledCard

/-- THE TIED CARD OF 'laws.FnCompiled'. -/
def fnCompiledCard : Claim7 := { stood := { row := fnCompiledRow, standIns := [], harness := (true, "ec01e8d38d0289a10cc945b8458847afb4b09cedfe56573f66de0e6550dc9251"), looks := false }, kinds := [], alts := [], laidByText := true, laidKinds := [.data, .pinned], laidTests := true, laidLooks := .later }
def FnCompiledCardSaid : Prop := Claim7.holds Tryd.pinned (.plain (OpenSpec.ofChange fnCompiledSpec)) fnCompiledCard

/-- THE TIED CARD OF 'laws.FnPrecedence'. -/
def fnPrecedenceCard : Claim7 := { stood := { row := fnPrecedenceRow, standIns := [], harness := (true, "ec01e8d38d0289a10cc945b8458847afb4b09cedfe56573f66de0e6550dc9251"), looks := false }, kinds := [], alts := [], laidByText := true, laidKinds := [.data, .pinned], laidTests := true, laidLooks := .later }
def FnPrecedenceCardSaid : Prop := Claim7.holds Tryd.pinned (.plain (OpenSpec.ofChange fnPrecedenceSpec)) fnPrecedenceCard

/-- THE SECOND FORM's CARD OF 'laws.FnExactCompiled'. -/
def fnExactCompiledUptoCard : Claim7 := { stood := { row := fnExactCompiledUptoRow, standIns := [], harness := (true, "ec01e8d38d0289a10cc945b8458847afb4b09cedfe56573f66de0e6550dc9251"), looks := false }, kinds := [], alts := [], laidByText := true, laidKinds := [.data, .pinned], laidTests := true, laidLooks := .later }
def FnExactCompiledUptoCardSaid : Prop := Claim7.holds Tryd.pinned (.plain (OpenSpec.upto fnExactCompiledSpec)) fnExactCompiledUptoCard

/-- THE SECOND FORM's CARD OF 'laws.FnCompiled'. -/
def fnCompiledUptoCard : Claim7 := { stood := { row := fnCompiledUptoRow, standIns := [], harness := (true, "ec01e8d38d0289a10cc945b8458847afb4b09cedfe56573f66de0e6550dc9251"), looks := false }, kinds := [], alts := [], laidByText := true, laidKinds := [.data, .pinned], laidTests := true, laidLooks := .later }
def FnCompiledUptoCardSaid : Prop := Claim7.holds Tryd.pinned (.plain (OpenSpec.upto fnCompiledSpec)) fnCompiledUptoCard

/-- THE SECOND FORM's CARD OF 'laws.FnPrecedence'. -/
def fnPrecedenceUptoCard : Claim7 := { stood := { row := fnPrecedenceUptoRow, standIns := [], harness := (true, "ec01e8d38d0289a10cc945b8458847afb4b09cedfe56573f66de0e6550dc9251"), looks := false }, kinds := [], alts := [], laidByText := true, laidKinds := [.data, .pinned], laidTests := true, laidLooks := .later }
def FnPrecedenceUptoCardSaid : Prop := Claim7.holds Tryd.pinned (.plain (OpenSpec.upto fnPrecedenceSpec)) fnPrecedenceUptoCard
end Rows
end Go.Proofs.YtllgcnjhlhkhjaaDoor
