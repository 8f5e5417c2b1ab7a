/- A part of the proof. No condition. -/
import Derived.Test.YtncclmpabjglmaaGreatDoorP1
import Derived.Test.YtncclmpabjglmaaGreatDoorP0
set_option linter.unusedVariables false
set_option linter.unusedSimpArgs false
set_option linter.unusedSectionVars false
namespace Go.U.Tryz
open Go Go.U
set_option linter.unusedVariables false
set_option linter.unusedSimpArgs false
set_option maxRecDepth 20000
theorem F54_in (K : Nat) (v lo hi : Int) : F54 K (v, lo, hi) = some (inR v lo hi) := by
  simp only [F54, branch_ite, inR]
  split <;> simp_all <;> omega
theorem bind_bind {α β ρ : Type} {x : Option α} {f : α → Option β} {k : β → Option ρ} : bindO (bindO x f) k = bindO x fun y => bindO (f y) k := by cases x <;> rfl
def rpl (kind rb : Int) (on : Bool) (mode addr : Int) : Int := if on = true ∧ 40960 ≤ addr ∧ addr ≤ 41023 then (if kind = 1 ∧ mode = 0 then 0 else rb) * 64 + addr - 40960 else -1
theorem F178_eq (K : Nat) (rom : List UInt8) (kind bank : Int) (ram : List UInt8) (rb : Int) (on : Bool) (mode addr : Int) (hrb : 0 ≤ rb ∧ rb ≤ 3) : F178 K (rom, kind, bank, ram, rb, on, mode, addr) = some (rpl kind rb on mode addr) := by
  unfold F178 rpl
  simp only [F54_in, bindO_s]
  cases on with
  | false => rfl
  | true =>
    simp only [Bool.not_true, branch_f, bindO_s, inR]
    by_cases h : 40960 ≤ addr ∧ addr ≤ 41023
    · rw [decide_eq_true h, if_pos ⟨trivial, h⟩]
      simp only [Bool.not_true, branch_f, bindO_s, csO_r, branch_ite]
      by_cases k1 : kind = 1
      · by_cases m0 : mode = 0
        · simp only [k1, m0, if_true, bindO_s, decide_true, branch_t, and_self]
          congr 1; (simp (disch := omega) only [w64_id, w64u_id, Int.tmod_eq_emod_of_nonneg, Int.tdiv_eq_ediv_of_nonneg])
        · simp only [k1, m0, if_true, bindO_s, decide_false, branch_f, and_false, if_false]
          congr 1; (simp (disch := omega) only [w64_id, w64u_id, Int.tmod_eq_emod_of_nonneg, Int.tdiv_eq_ediv_of_nonneg])
      · simp only [k1, if_false, bindO_s, branch_f, false_and]
        congr 1; (simp (disch := omega) only [w64_id, w64u_id, Int.tmod_eq_emod_of_nonneg, Int.tdiv_eq_ediv_of_nonneg])
    · rw [decide_eq_false h, if_neg (fun x => h x.2)]
      rfl
end Go.U.Tryz
namespace Go.U.Tryz
open Go Go.U
set_option linter.unusedVariables false
set_option linter.unusedSimpArgs false
set_option maxRecDepth 20000
def A (c : Int) (cb : Bool) (imm : Int) (w : WT) : Int × Bool × Int × Bool × MT := (c, cb, imm, w.2.2.2.2.2.2.2.2.2.2.2.2.2.2.2.2.2.2.2.2.2.2.2, w.1, w.2.1, w.2.2.1, w.2.2.2.1, w.2.2.2.2.1, w.2.2.2.2.2.1, w.2.2.2.2.2.2.1, w.2.2.2.2.2.2.2.1, w.2.2.2.2.2.2.2.2.1, w.2.2.2.2.2.2.2.2.2.1, w.2.2.2.2.2.2.2.2.2.2.1, w.2.2.2.2.2.2.2.2.2.2.2.1, w.2.2.2.2.2.2.2.2.2.2.2.2.1, w.2.2.2.2.2.2.2.2.2.2.2.2.2.1, w.2.2.2.2.2.2.2.2.2.2.2.2.2.2.1, w.2.2.2.2.2.2.2.2.2.2.2.2.2.2.2.1, w.2.2.2.2.2.2.2.2.2.2.2.2.2.2.2.2.1, w.2.2.2.2.2.2.2.2.2.2.2.2.2.2.2.2.2.1, w.2.2.2.2.2.2.2.2.2.2.2.2.2.2.2.2.2.2.1, w.2.2.2.2.2.2.2.2.2.2.2.2.2.2.2.2.2.2.2.1, w.2.2.2.2.2.2.2.2.2.2.2.2.2.2.2.2.2.2.2.2.1, w.2.2.2.2.2.2.2.2.2.2.2.2.2.2.2.2.2.2.2.2.2.1, w.2.2.2.2.2.2.2.2.2.2.2.2.2.2.2.2.2.2.2.2.2.2.1)
theorem hl_or (h l : Int) (h0 : 0 ≤ h ∧ h ≤ 255) (l0 : 0 ≤ l ∧ l ≤ 255) : bits .or .i64 (shlI .i64 h 8) l = 256 * h + l := by
  rw [shl8 h h0.1 (by omega)]; exact or_join h l h0.1 (by omega) l0.1 l0.2
end Go.U.Tryz
namespace Go.U.Tryz
open Go Go.U
set_option linter.unusedVariables false
set_option linter.unusedSimpArgs false
set_option maxRecDepth 20000
end Go.U.Tryz
