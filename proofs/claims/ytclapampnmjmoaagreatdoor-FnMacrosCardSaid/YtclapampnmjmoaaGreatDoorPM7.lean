/- A part of the proof. No condition. -/
import Derived.Test.YtclapampnmjmoaaGreatDoorPM2
import Derived.Test.YtclapampnmjmoaaGreatDoorPM3
import Derived.Test.YtclapampnmjmoaaGreatDoorPM4
import Derived.Test.YtclapampnmjmoaaGreatDoorPM5
import Derived.Test.YtclapampnmjmoaaGreatDoorPM6
set_option linter.unusedVariables false
set_option linter.unusedSimpArgs false
set_option linter.unusedSectionVars false
namespace Go.U.Tryz
open Go Go.U
set_option maxRecDepth 100000
theorem macros_all (x : List Int) (hx : ∀ v ∈ x, 0 ≤ v ∧ v ≤ 255) : F4 kk x = some true := by
  rw [F4_tail]
  unfold F14
  rw [bindO_s]
  by_cases h : 1048576 < (x.length : Int)
  · rw [decide_eq_true h, branch_t]
  · rw [decide_eq_false h, branch_f]
    obtain ⟨s, hs, o, h1, h2, h3⟩ := F15_in x hx (by omega)
    rw [h1, bindO_s]
    simp only [sL, List.mem_cons, List.not_mem_nil, or_false] at hs
    rcases hs with rfl | rfl | rfl | rfl | rfl
    · exact m0 o h2 h3
    · exact m1 o h2 h3
    · exact m2 o h2 h3
    · exact m3 o h2 h3
    · exact m4 o h2 h3
theorem macros_law (a0 : T29.den) (h : T29.ok a0) : ∃ K, A4 K a0 = some true :=
  ⟨kk, macros_all a0 (fun v hv => by have := h.2 v hv; simp only [Ty.ok] at this; exact ⟨this.1, this.2⟩)⟩
end Go.U.Tryz
