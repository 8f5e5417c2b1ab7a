/- Where a machine is, is its place, and the bank that is mapped there: the law FnAt. No condition. -/
import Derived.Test.YtaplcmgnmkfgjaaPRd
set_option linter.unusedVariables false
set_option linter.unusedSimpArgs false
set_option linter.unusedSectionVars false
namespace Go.U.Try
open Go Go.U
set_option linter.unusedVariables false
set_option linter.unusedSimpArgs false
set_option maxRecDepth 20000

/-- Where a right machine is. -/
def atOf (rom : List UInt8) (k2 pc : Int) : Int × Int := if pc < 256 then (0, pc) else if pc < 512 then (Int.tmod k2 (banks rom), pc) else (-1, pc)

theorem at_both (K : Nat) (c0 c1 c2 c3 c4 c5 c6 c7 c8 c9 : Int) (b0 b1 : Bool) (rom : List UInt8) (k1 k2 : Int) (ram : List UInt8) (k3 : Int) (kb : Bool) (k4 : Int) (s1 s2 : List UInt8) (st : List Int) (n : Int) (hr : rom.length ≤ maxLen) (hl : st.length ≤ maxLen) (hK : st.length + 8 < K) : ∃ r, F7 K (c0, c1, c2, c3, c4, c5, c6, c7, c8, c9, b0, b1, rom, k1, k2, ram, k3, kb, k4, s1, s2, st, n) = some r ∧ F6 K (c0, c1, c2, c3, c4, c5, c6, c7, c8, c9, b0, b1, rom, k1, k2, ram, k3, kb, k4, s1, s2, st, n) = some r ∧
    (mOk c0 c1 c2 c3 c4 c5 c6 c7 c8 c9 b0 b1 rom k1 k2 ram k3 kb k4 s1 s2 st n = true → r = atOf rom k2 c9 ∧ F9 K (rom, k1, k2, ram, k3, kb, k4) = some (Int.tmod k2 (banks rom))) := by
  simp only [F7, F6, F8_eq K c0 c1 c2 c3 c4 c5 c6 c7 c8 c9 b0 b1 rom k1 k2 ram k3 kb k4 s1 s2 st n hr hl hK, F12_eq K c0 c1 c2 c3 c4 c5 c6 c7 c8 c9 b0 b1 rom k1 k2 ram k3 kb k4 s1 s2 st n hr hl hK, bindO_s]
  cases hm : mOk c0 c1 c2 c3 c4 c5 c6 c7 c8 c9 b0 b1 rom k1 k2 ram k3 kb k4 s1 s2 st n with
  | false => exact ⟨_, rfl, rfl, fun e => by cases e⟩
  | true =>
    have hc : cartOk rom k1 k2 ram k3 kb k4 = true := by
      simp only [mOk, restOk, Bool.and_eq_true] at hm
      exact hm.2.1.1.1.1.2
    have h9 : F9 K (rom, k1, k2, ram, k3, kb, k4) = some (Int.tmod k2 (banks rom)) := by
      simp only [F9, F19_eq K rom k1 k2 ram k3 kb k4 hr, hc, bindO_s, Bool.not_true, branch_f, F20_eq K rom k1 k2 ram k3 kb k4 hr hc]
    simp only [Bool.not_true, branch_f, F14, F13, F34_eq K rom k1 k2 ram k3 kb k4 hr hc, F20_eq K rom k1 k2 ram k3 kb k4 hr hc, branch_ite, bindO_s, h9, atOf]
    split
    · exact ⟨_, rfl, rfl, fun _ => ⟨rfl, trivial⟩⟩
    · split
      · exact ⟨_, rfl, rfl, fun _ => ⟨rfl, trivial⟩⟩
      · exact ⟨_, rfl, rfl, fun _ => ⟨rfl, trivial⟩⟩

theorem F3_true (a0 : List Int) (hb : ∀ v ∈ a0, 0 ≤ v ∧ v ≤ 255) : F3 (0 + 600) a0 = some true := by
  unfold F3 F4
  rw [bindO_s]
  by_cases hbig : 1048576 < (a0.length : Int)
  · rw [decide_eq_true hbig]; rfl
  rw [decide_eq_false hbig, branch_f]
  obtain ⟨m, e, hm⟩ := F5_t 0 a0 hb (by omega)
  rw [e, bindO_s]
  obtain ⟨c0, c1, c2, c3, c4, c5, c6, c7, c8, c9, b0, b1, rom, k1, k2, ram, k3, kb, k4, s1, s2, st, n⟩ := m
  obtain ⟨hr, hl⟩ := hm
  dsimp only at hr hl
  have hl' : st.length ≤ maxLen := by unfold maxLen; omega
  obtain ⟨r, e7, e6, hok⟩ := at_both (0 + 600) c0 c1 c2 c3 c4 c5 c6 c7 c8 c9 b0 b1 rom k1 k2 ram k3 kb k4 s1 s2 st n hr hl' (by omega)
  have e8 := F8_eq (0 + 600) c0 c1 c2 c3 c4 c5 c6 c7 c8 c9 b0 b1 rom k1 k2 ram k3 kb k4 s1 s2 st n hr hl' (by omega)
  simp only [e6, e7, e8, bindO_s, decide_true, Bool.and_self, Bool.not_true, branch_f]
  cases hmk : mOk c0 c1 c2 c3 c4 c5 c6 c7 c8 c9 b0 b1 rom k1 k2 ram k3 kb k4 s1 s2 st n with
  | false => simp only [Bool.not_false, branch_t, bindO_s, csO_l]
  | true =>
    obtain ⟨rfl, e9⟩ := hok hmk
    simp only [Bool.not_true, branch_f, bindO_s, csO_r, e9, branch_ite, atOf]
    by_cases g1 : c9 < 256
    · simp [g1]
    · by_cases g2 : c9 < 512
      · simp [g1, g2]
      · simp [g1, g2]

theorem fnAt_law (a0 : T22.den) (h : T22.ok a0) : ∃ K, A3 K a0 = some true :=
  ⟨_, F3_true a0 (fun v hv => by have := h.2 v hv; simp only [Ty.ok] at this; exact ⟨this.1, this.2⟩)⟩

end Go.U.Try
