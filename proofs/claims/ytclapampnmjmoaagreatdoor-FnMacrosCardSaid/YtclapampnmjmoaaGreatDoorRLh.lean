/- A part of the proof. No condition. -/
import Derived.Test.YtclapampnmjmoaaGreatDoorRLg
import Derived.LaidByTextLater
import Derived.LaidSub
import Derived.LaidOnce
import Derived.Test.YtclapampnmjmoaaGreatDoorCards
import Derived.ShutString
import Derived.ChangeOld
import Derived.Below
import Derived.Carry
import Derived.Deep.Slices
import Derived.ChangeSame
import Derived.SevenTiedAt
import Derived.Stop.Joined
set_option linter.unusedVariables false
set_option linter.unusedSimpArgs false
set_option linter.unusedSectionVars false
namespace Go.Proofs.YtclapampnmjmoaaGreatDoor.shared
open Go Go.U Go.U.Tryz Go.Proofs Go.Proofs.YtclapampnmjmoaaGreatDoor Go.ChangeShapes Go.WideShapes Go.ChangeAt Go.RowKit
section
set_option maxRecDepth 100000
theorem seatTie1 : Tryz.prog.laidByTextLater [("unicode/utf8.acceptRanges", Rows.laid_unicode_utf8_acceptRanges)] [.data] true :=
  Program.laidByTextLater_by_one 19 8 33 (by kernel_rfl) (by kernel_rfl) (by kernel_rfl) (by kernel_rfl) (by kernel_rfl) (by kernel_rfl) (fun _ _ => by kernel_rfl)
theorem pin_laid_unicode_utf8_first : Tryz.pinned.checked.prog.pinnedFits "unicode/utf8.first" = true := by kernel_rfl
theorem noOwnUnsafe : Tryz.pinned.checked.prog.headLifts.contains "ownunsafe" = false := by kernel_rfl
theorem fits1 : Tryz.pinned.checked.prog.listedFits [("unicode/utf8.acceptRanges", Rows.laid_unicode_utf8_acceptRanges), ("unicode/utf8.first", Rows.laid_unicode_utf8_first)] = true := by
  unfold Program.listedFits
  rw [noOwnUnsafe]
  kernel_rfl
theorem tie : Tryz.prog.laidByTextLater [("unicode/utf8.acceptRanges", Rows.laid_unicode_utf8_acceptRanges)] [.data] true :=
  Program.laidByTextLater.sub seatTie1 ["unicode/utf8.acceptRanges"] (by kernel_rfl) (by kernel_rfl)
end
theorem k9 : (Rows.fnExactExpandedRow.lifted == Tryz.prog.liftsFinal) = true := by kernel_rfl
theorem k10 : Tryz.prog.stopsHeard = true := by kernel_rfl
theorem k11 : Tryz.prog.mayEnter = true := by kernel_rfl
theorem k12 : (Rows.fnExactExpandedRow.plainKeys == Tryz.prog.plainKeys) = true := by kernel_rfl
theorem k13 : (Tryz.prog.make == some Rows.fnExactExpandedRow.make) = true := by kernel_rfl
theorem krowed : mapsRowed Tryz.prog = true := by kernel_rfl
theorem kmains : Tryz.pinned.checked.prog.mainIs = some (true, "374006e07154c41ae322a43831771d20a0ebed477fc4d90510b33cdb6319ebf7".toList) := by kernel_rfl
theorem klooks : false = Tryz.pinned.checked.prog.looks [] := by kernel_rfl
end Go.Proofs.YtclapampnmjmoaaGreatDoor.shared
