/- A part of the proof. No condition. -/
import Derived.Test.YtllgcnjhlhkhjaaDoorREg
import Derived.LaidByTextLater
import Derived.LaidSub
import Derived.LaidOnce
import Derived.Test.YtllgcnjhlhkhjaaDoorCards
import Derived.ShutString
import Derived.ChangeOld
import Derived.Below
import Derived.Carry
import Derived.Deep.Slices
import Derived.ChangeSame
import Derived.SevenTiedAt
import Derived.Stop.Joined
set_option linter.unusedVariables false
set_option linter.unusedSimpArgs false
set_option linter.unusedSectionVars false
namespace Go.Proofs.YtllgcnjhlhkhjaaDoor.shared
open Go Go.U Go.U.Tryd Go.Proofs Go.Proofs.YtllgcnjhlhkhjaaDoor Go.ChangeShapes Go.WideShapes Go.ChangeAt Go.RowKit
section
set_option maxRecDepth 100000
theorem seatTie1 : Tryd.prog.laidByTextLater [("unicode/utf8.acceptRanges", Rows.laid_unicode_utf8_acceptRanges)] [.data] true :=
  Program.laidByTextLater_by_one 19 8 33 (by kernel_rfl) (by kernel_rfl) (by kernel_rfl) (by kernel_rfl) (by kernel_rfl) (by kernel_rfl) (fun _ _ => by kernel_rfl)
theorem pin_laid_unicode_utf8_first : Tryd.pinned.checked.prog.pinnedFits "unicode/utf8.first" = true := by kernel_rfl
theorem noOwnUnsafe : Tryd.pinned.checked.prog.headLifts.contains "ownunsafe" = false := by kernel_rfl
theorem fits1 : Tryd.pinned.checked.prog.listedFits [("unicode/utf8.acceptRanges", Rows.laid_unicode_utf8_acceptRanges), ("unicode/utf8.first", Rows.laid_unicode_utf8_first)] = true := by
  unfold Program.listedFits
  rw [noOwnUnsafe]
  kernel_rfl
theorem tie : Tryd.prog.laidByTextLater [("unicode/utf8.acceptRanges", Rows.laid_unicode_utf8_acceptRanges)] [.data] true :=
  Program.laidByTextLater.sub seatTie1 ["unicode/utf8.acceptRanges"] (by kernel_rfl) (by kernel_rfl)
end
theorem k9 : (Rows.fnExactCompiledRow.lifted == Tryd.prog.liftsFinal) = true := by kernel_rfl
theorem k10 : Tryd.prog.stopsHeard = true := by kernel_rfl
theorem k11 : Tryd.prog.mayEnter = true := by kernel_rfl
theorem k12 : (Rows.fnExactCompiledRow.plainKeys == Tryd.prog.plainKeys) = true := by kernel_rfl
theorem k13 : (Tryd.prog.make == some Rows.fnExactCompiledRow.make) = true := by kernel_rfl
theorem krowed : mapsRowed Tryd.prog = true := by kernel_rfl
theorem kmains : Tryd.pinned.checked.prog.mainIs = some (true, "ec01e8d38d0289a10cc945b8458847afb4b09cedfe56573f66de0e6550dc9251".toList) := by kernel_rfl
theorem klooks : false = Tryd.pinned.checked.prog.looks [] := by kernel_rfl
end Go.Proofs.YtllgcnjhlhkhjaaDoor.shared
