/- A part of the proof. No condition. -/
import Derived.Test.YtclapampnmjmoaaGreatDoorPM1
set_option linter.unusedVariables false
set_option linter.unusedSimpArgs false
set_option linter.unusedSectionVars false
namespace Go.U.Tryz
open Go Go.U
set_option maxRecDepth 100000
set_option maxHeartbeats 0
theorem m2_0 : ((seqs 0).all (okT ([108, 100, 32, 92, 51] : List UInt8))) = true := by kernel_rfl
theorem m2_1 : ((seqs 1).all (okT ([108, 100, 32, 92, 51] : List UInt8))) = true := by kernel_rfl
theorem m2_2 : ((seqs 2).all (okT ([108, 100, 32, 92, 51] : List UInt8))) = true := by kernel_rfl
theorem m2_30 : (((seqs 2).map fun l => ([97] : List UInt8) :: l).all (okT ([108, 100, 32, 92, 51] : List UInt8))) = true := by kernel_rfl
theorem m2_31 : (((seqs 2).map fun l => ([] : List UInt8) :: l).all (okT ([108, 100, 32, 92, 51] : List UInt8))) = true := by kernel_rfl
theorem m2_32 : (((seqs 2).map fun l => ([49, 43, 50] : List UInt8) :: l).all (okT ([108, 100, 32, 92, 51] : List UInt8))) = true := by kernel_rfl
theorem m2_33 : (((seqs 2).map fun l => ([48, 49, 50, 51, 52, 53, 54, 55, 56, 57, 48, 49, 50, 51, 52, 53, 54, 55, 56, 57, 48, 49, 50, 51, 52, 53, 54, 55, 56, 57, 48, 49, 50, 51, 52, 53, 54, 55, 56, 57] : List UInt8) :: l).all (okT ([108, 100, 32, 92, 51] : List UInt8))) = true := by kernel_rfl
theorem m2 (l : List (List UInt8)) (h : l.length ≤ 3) (ha : ∀ a ∈ l, a ∈ aL) : tail4 kk (([108, 100, 32, 92, 51] : List UInt8), l) = some true := by
  have hm := mem_seqs l ha
  apply okT_some
  generalize hn : l.length = n at hm h
  match n, h with
  | 0, _ => exact List.all_eq_true.1 m2_0 l hm
  | 1, _ => exact List.all_eq_true.1 m2_1 l hm
  | 2, _ => exact List.all_eq_true.1 m2_2 l hm
  | 3, _ =>
    obtain ⟨a, h1, h2⟩ := List.mem_flatMap.1 hm
    simp only [aL, List.mem_cons, List.not_mem_nil, or_false] at h1
    rcases h1 with rfl | rfl | rfl | rfl
    · exact List.all_eq_true.1 m2_30 l h2
    · exact List.all_eq_true.1 m2_31 l h2
    · exact List.all_eq_true.1 m2_32 l h2
    · exact List.all_eq_true.1 m2_33 l h2
end Go.U.Tryz
