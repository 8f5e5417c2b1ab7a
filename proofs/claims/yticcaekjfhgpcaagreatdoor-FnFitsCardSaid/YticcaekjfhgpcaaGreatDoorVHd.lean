/- A part of the proof. No condition. -/
import Derived.Test.YticcaekjfhgpcaaGreatDoorVHc
set_option linter.unusedVariables false
set_option linter.unusedSimpArgs false
set_option linter.unusedSectionVars false
namespace Go.U.Tryz
open Go Go.U Go.Proofs Go.Proofs.Tryz Go.RowKit
set_option maxRecDepth 100000
theorem zc1 (z : Array Value) (h : z.size = 1) (n : Nat) : Builtin.zeroCells z n = Array.replicate n z[0]! := by
  apply Array.ext
  · rw [size_zeroCells, h, Nat.mul_one, Array.size_replicate]
  · intro i h1 h2
    simp [Builtin.zeroCells, h, Nat.mod_one]
theorem zadd (z : Array Value) (h : z.size = 1) (n m : Nat) (hm : n ≤ m) : (([] : List Value).toArray ++ Builtin.zeroCells z n ++ Builtin.zeroCells z (m - n)) = Builtin.zeroCells z m := by
  rw [zc1 z h, zc1 z h, zc1 z h]
  apply Array.ext
  · simp; omega
  · intro i h1 h2
    simp [Array.getElem_append]
theorem i9_ex : ∃ i z, prog.info? 9 = some i ∧ i.zero = some z ∧ z.cells.size = 1 ∧ i.size = 1 ∧ i.bytes = 16 :=
  ⟨(prog.info? 9).get (by kernel_rfl), ((prog.info? 9).get (by kernel_rfl)).zero.get (by kernel_rfl), by kernel_rfl, by kernel_rfl, by kernel_rfl, by kernel_rfl, by kernel_rfl⟩
theorem c147 (K : Nat) : CtOk prog 147 ⟨[.l .emp, .l (.v (.i .i64))], [], [.l (.all 0)], [⟨1, true, .row .s⟩], [], growF⟩ := by
  obtain ⟨i9, z9, i9_eq, z9_eq, hz, hs, hb⟩ := i9_ex
  exact ct_growS (ty := 9) (z := z9) hz Tryz.call147
    (fun w => Any8.slices_Grow_room Tryz.growS none 0 0 0 w (Nat.le_refl _) (by decide) (by decide) (by decide))
    fun n w h0 h1 => by
      refine (Any8.slices_Grow_grow Tryz.growS i9 z9 i9_eq z9_eq (by omega) none 0 0 n [] w (Nat.le_refl _) (by omega) ?_ (by omega) (by simp) (fun _ => rfl) (fun a h => by cases h)).mono ?_
      · rw [hb]; omega
      · rintro e w' ⟨rfl, rfl⟩
        have hg : 0 + n ≤ grownCap w (0 + n) 0 (Tryz.growS_ren.t 25) := grownCap_ge w _ _ _
        refine ⟨_, _, rfl, Nat.le_refl _, ?_⟩
        have := zadd z9.cells hz (0 + n - 0) (grownCap w (0 + n) 0 (Tryz.growS_ren.t 25)) (by omega)
        rw [Nat.sub_zero] at this
        rw [Nat.sub_zero, this]
        rfl
def F147 (K : Nat) (x : Int) : Option (List (List UInt8)) := growF x
def ct147 (K : Nat) : Ct := ⟨[.l .emp, .l (.v (.i .i64))], [], [.l (.all 0)], [⟨1, true, .row .s⟩], [], F147 K⟩
end Go.U.Tryz
