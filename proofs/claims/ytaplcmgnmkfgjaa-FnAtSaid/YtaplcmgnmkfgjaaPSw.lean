/- The machine's step and run, as the laws' own text has them: they always answer, right machines stay right. No condition. -/
import Derived.Test.YtaplcmgnmkfgjaaPSv
set_option linter.unusedVariables false
set_option linter.unusedSimpArgs false
set_option linter.unusedSectionVars false
namespace Go.U.Try
open Go Go.U
set_option linter.unusedVariables false
set_option linter.unusedSimpArgs false
set_option maxRecDepth 20000
set_option maxHeartbeats 2000000

theorem F53_t (K : Nat) (w : WT) (h : WInv w) (c : Int) (cb : Bool) (imm : Int) (hc : 0 ≤ c ∧ c ≤ 255) (hi : 0 ≤ imm ∧ imm ≤ 65535) (h6 : c % 8 = 6 → imm ≤ 255) : T (F53 K (c, cb, imm, w)) fun r => WInv r.2 := by
  have hsp := h.sp
  have hpc := h.pc
  have hcc := h.c
  have hh := h.h
  have hl := h.l
  unfold F53
  dsimp only
  have hz : 0 ≤ Int.tmod c 8 ∧ Int.tmod c 8 ≤ 7 ∧ (Int.tmod c 8 = 6 → imm ≤ 255) := ⟨by (first | omega | ((simp (disch := omega) only [w64_id, w64u_id, Int.tmod_eq_emod_of_nonneg, Int.tdiv_eq_ediv_of_nonneg]); omega) | (simp (disch := omega) only [w64_id, w64u_id, Int.tmod_eq_emod_of_nonneg, Int.tdiv_eq_ediv_of_nonneg]) | (simp only [tm2, tm4, tm8, tm16, tm32, tm40, tm256, tm4096, tm65536, td2, td8, td16, td32, td64, td128, td256, w64_eq, decide_eq_true_eq, decide_eq_false_iff_not, not_and, Int.not_le, Int.not_lt] at *; omega)), by (first | omega | ((simp (disch := omega) only [w64_id, w64u_id, Int.tmod_eq_emod_of_nonneg, Int.tdiv_eq_ediv_of_nonneg]); omega) | (simp (disch := omega) only [w64_id, w64u_id, Int.tmod_eq_emod_of_nonneg, Int.tdiv_eq_ediv_of_nonneg]) | (simp only [tm2, tm4, tm8, tm16, tm32, tm40, tm256, tm4096, tm65536, td2, td8, td16, td32, td64, td128, td256, w64_eq, decide_eq_true_eq, decide_eq_false_iff_not, not_and, Int.not_le, Int.not_lt] at *; omega)), fun e => h6 (by rw [← Int.tmod_eq_emod_of_nonneg hc.1]; exact e)⟩
  have hy : 0 ≤ Int.tmod (w64 (Int.tdiv c 8)) 8 ∧ Int.tmod (w64 (Int.tdiv c 8)) 8 ≤ 7 := by (first | omega | ((simp (disch := omega) only [w64_id, w64u_id, Int.tmod_eq_emod_of_nonneg, Int.tdiv_eq_ediv_of_nonneg]); omega) | (simp (disch := omega) only [w64_id, w64u_id, Int.tmod_eq_emod_of_nonneg, Int.tdiv_eq_ediv_of_nonneg]) | (simp only [tm2, tm4, tm8, tm16, tm32, tm40, tm256, tm4096, tm65536, td2, td8, td16, td32, td64, td128, td256, w64_eq, decide_eq_true_eq, decide_eq_false_iff_not, not_and, Int.not_le, Int.not_lt] at *; omega))
  generalize Int.tmod (w64 (Int.tdiv c 8)) 8 = y at hy ⊢
  generalize Int.tmod c 8 = z at hz ⊢
  have hp : 0 ≤ w64 (Int.tdiv y 2) ∧ w64 (Int.tdiv y 2) ≤ 3 := by (first | omega | ((simp (disch := omega) only [w64_id, w64u_id, Int.tmod_eq_emod_of_nonneg, Int.tdiv_eq_ediv_of_nonneg]); omega) | (simp (disch := omega) only [w64_id, w64u_id, Int.tmod_eq_emod_of_nonneg, Int.tdiv_eq_ediv_of_nonneg]) | (simp only [tm2, tm4, tm8, tm16, tm32, tm40, tm256, tm4096, tm65536, td2, td8, td16, td32, td64, td128, td256, w64_eq, decide_eq_true_eq, decide_eq_false_iff_not, not_and, Int.not_le, Int.not_lt] at *; omega))
  refine T.bind (S := fun v => ∃ b, v = (y, z, 65280, b, c, cb, imm, w)) ?_ ?_
  · refine T.bind (S := fun v => ∃ b, v = (y, z, 65280, b, c, cb, imm, w)) ?_ ?_
    · exact T.br (fun _ => T.br (fun _ => T.bind (F65_t K w _) fun r hr => T.ret ⟨_, rfl⟩) fun _ => T.ret ⟨_, rfl⟩) fun _ => T.ret ⟨_, rfl⟩
    · rintro _ ⟨b, rfl⟩
      exact T.br (fun _ => T.ret ⟨_, rfl⟩) fun _ => T.br (fun _ => T.ret ⟨_, rfl⟩) fun _ => T.ret ⟨_, rfl⟩
  rintro _ ⟨b0, rfl⟩
  refine T.br (fun _ => T.bind (F73_t K w h) fun r hr => T.br (fun _ => T.ret ((hr.2.set_pc hr.1).set_ime true)) fun _ => T.ret ((hr.2.set_pc hr.1).set_ime _)) fun _ => ?_
  refine T.br (fun _ => T.bind (F64_t K w h _ _ (by (first | (dsimp only; (first | omega | ((simp (disch := omega) only [w64_id, w64u_id, Int.tmod_eq_emod_of_nonneg, Int.tdiv_eq_ediv_of_nonneg]); omega) | (simp (disch := omega) only [w64_id, w64u_id, Int.tmod_eq_emod_of_nonneg, Int.tdiv_eq_ediv_of_nonneg]) | (simp only [tm2, tm4, tm8, tm16, tm32, tm40, tm256, tm4096, tm65536, td2, td8, td16, td32, td64, td128, td256, w64_eq, decide_eq_true_eq, decide_eq_false_iff_not, not_and, Int.not_le, Int.not_lt] at *; omega))) | (first | omega | ((simp (disch := omega) only [w64_id, w64u_id, Int.tmod_eq_emod_of_nonneg, Int.tdiv_eq_ediv_of_nonneg]); omega) | (simp (disch := omega) only [w64_id, w64u_id, Int.tmod_eq_emod_of_nonneg, Int.tdiv_eq_ediv_of_nonneg]) | (simp only [tm2, tm4, tm8, tm16, tm32, tm40, tm256, tm4096, tm65536, td2, td8, td16, td32, td64, td128, td256, w64_eq, decide_eq_true_eq, decide_eq_false_iff_not, not_and, Int.not_le, Int.not_lt] at *; omega)))) h.a) fun r hr => T.ret hr) fun _ => ?_
  refine T.br (fun _ => T.bind (F64_t K w h _ _ (by (first | (dsimp only; (first | omega | ((simp (disch := omega) only [w64_id, w64u_id, Int.tmod_eq_emod_of_nonneg, Int.tdiv_eq_ediv_of_nonneg]); omega) | (simp (disch := omega) only [w64_id, w64u_id, Int.tmod_eq_emod_of_nonneg, Int.tdiv_eq_ediv_of_nonneg]) | (simp only [tm2, tm4, tm8, tm16, tm32, tm40, tm256, tm4096, tm65536, td2, td8, td16, td32, td64, td128, td256, w64_eq, decide_eq_true_eq, decide_eq_false_iff_not, not_and, Int.not_le, Int.not_lt] at *; omega))) | (first | omega | ((simp (disch := omega) only [w64_id, w64u_id, Int.tmod_eq_emod_of_nonneg, Int.tdiv_eq_ediv_of_nonneg]); omega) | (simp (disch := omega) only [w64_id, w64u_id, Int.tmod_eq_emod_of_nonneg, Int.tdiv_eq_ediv_of_nonneg]) | (simp only [tm2, tm4, tm8, tm16, tm32, tm40, tm256, tm4096, tm65536, td2, td8, td16, td32, td64, td128, td256, w64_eq, decide_eq_true_eq, decide_eq_false_iff_not, not_and, Int.not_le, Int.not_lt] at *; omega)))) h.a) fun r hr => T.ret hr) fun _ => ?_
  refine T.br (fun _ => T.bind (F59_t K w h _ (by (first | (dsimp only; (first | omega | ((simp (disch := omega) only [w64_id, w64u_id, Int.tmod_eq_emod_of_nonneg, Int.tdiv_eq_ediv_of_nonneg]); omega) | (simp (disch := omega) only [w64_id, w64u_id, Int.tmod_eq_emod_of_nonneg, Int.tdiv_eq_ediv_of_nonneg]) | (simp only [tm2, tm4, tm8, tm16, tm32, tm40, tm256, tm4096, tm65536, td2, td8, td16, td32, td64, td128, td256, w64_eq, decide_eq_true_eq, decide_eq_false_iff_not, not_and, Int.not_le, Int.not_lt] at *; omega))) | (first | omega | ((simp (disch := omega) only [w64_id, w64u_id, Int.tmod_eq_emod_of_nonneg, Int.tdiv_eq_ediv_of_nonneg]); omega) | (simp (disch := omega) only [w64_id, w64u_id, Int.tmod_eq_emod_of_nonneg, Int.tdiv_eq_ediv_of_nonneg]) | (simp only [tm2, tm4, tm8, tm16, tm32, tm40, tm256, tm4096, tm65536, td2, td8, td16, td32, td64, td128, td256, w64_eq, decide_eq_true_eq, decide_eq_false_iff_not, not_and, Int.not_le, Int.not_lt] at *; omega))))) fun r hr => T.ret (h.set_a hr)) fun _ => ?_
  refine T.br (fun _ => T.bind (F59_t K w h _ (by (first | (dsimp only; (first | omega | ((simp (disch := omega) only [w64_id, w64u_id, Int.tmod_eq_emod_of_nonneg, Int.tdiv_eq_ediv_of_nonneg]); omega) | (simp (disch := omega) only [w64_id, w64u_id, Int.tmod_eq_emod_of_nonneg, Int.tdiv_eq_ediv_of_nonneg]) | (simp only [tm2, tm4, tm8, tm16, tm32, tm40, tm256, tm4096, tm65536, td2, td8, td16, td32, td64, td128, td256, w64_eq, decide_eq_true_eq, decide_eq_false_iff_not, not_and, Int.not_le, Int.not_lt] at *; omega))) | (first | omega | ((simp (disch := omega) only [w64_id, w64u_id, Int.tmod_eq_emod_of_nonneg, Int.tdiv_eq_ediv_of_nonneg]); omega) | (simp (disch := omega) only [w64_id, w64u_id, Int.tmod_eq_emod_of_nonneg, Int.tdiv_eq_ediv_of_nonneg]) | (simp only [tm2, tm4, tm8, tm16, tm32, tm40, tm256, tm4096, tm65536, td2, td8, td16, td32, td64, td128, td256, w64_eq, decide_eq_true_eq, decide_eq_false_iff_not, not_and, Int.not_le, Int.not_lt] at *; omega))))) fun r hr => T.ret (h.set_a hr)) fun _ => ?_
  refine T.br (fun _ => T.bind (F64_t K w h _ _ hi.1 h.a) fun r hr => T.ret hr) fun _ => ?_
  refine T.br (fun _ => T.bind (F59_t K w h _ hi.1) fun r hr => T.ret (h.set_a hr)) fun _ => ?_
  refine T.br (fun _ => T.bind (F74_t K _ _) fun r hr => T.ret ((h.set_f hr.2).set_sp hr.1)) fun _ => ?_
  refine T.br (fun _ => T.bind (F74_t K _ _) fun r hr => T.bind (F67_t K w h _ _ _ hr.1) fun r2 hr2 => T.ret (hr2.set_f hr.2)) fun _ => ?_
  refine T.br (fun _ => ?_) fun _ => ?_
  · rw [F69_eq K w h]
    exact T.binds (T.ret (h.set_sp (by (first | (dsimp only; (first | omega | ((simp (disch := omega) only [w64_id, w64u_id, Int.tmod_eq_emod_of_nonneg, Int.tdiv_eq_ediv_of_nonneg]); omega) | (simp (disch := omega) only [w64_id, w64u_id, Int.tmod_eq_emod_of_nonneg, Int.tdiv_eq_ediv_of_nonneg]) | (simp only [tm2, tm4, tm8, tm16, tm32, tm40, tm256, tm4096, tm65536, td2, td8, td16, td32, td64, td128, td256, w64_eq, decide_eq_true_eq, decide_eq_false_iff_not, not_and, Int.not_le, Int.not_lt] at *; omega))) | (first | omega | ((simp (disch := omega) only [w64_id, w64u_id, Int.tmod_eq_emod_of_nonneg, Int.tdiv_eq_ediv_of_nonneg]); omega) | (simp (disch := omega) only [w64_id, w64u_id, Int.tmod_eq_emod_of_nonneg, Int.tdiv_eq_ediv_of_nonneg]) | (simp only [tm2, tm4, tm8, tm16, tm32, tm40, tm256, tm4096, tm65536, td2, td8, td16, td32, td64, td128, td256, w64_eq, decide_eq_true_eq, decide_eq_false_iff_not, not_and, Int.not_le, Int.not_lt] at *; omega))))))
  refine T.br (fun _ => ?_) fun _ => ?_
  · rw [F69_eq K w h]
    exact T.binds (T.ret (h.set_pc (by (first | (dsimp only; (first | omega | ((simp (disch := omega) only [w64_id, w64u_id, Int.tmod_eq_emod_of_nonneg, Int.tdiv_eq_ediv_of_nonneg]); omega) | (simp (disch := omega) only [w64_id, w64u_id, Int.tmod_eq_emod_of_nonneg, Int.tdiv_eq_ediv_of_nonneg]) | (simp only [tm2, tm4, tm8, tm16, tm32, tm40, tm256, tm4096, tm65536, td2, td8, td16, td32, td64, td128, td256, w64_eq, decide_eq_true_eq, decide_eq_false_iff_not, not_and, Int.not_le, Int.not_lt] at *; omega))) | (first | omega | ((simp (disch := omega) only [w64_id, w64u_id, Int.tmod_eq_emod_of_nonneg, Int.tdiv_eq_ediv_of_nonneg]); omega) | (simp (disch := omega) only [w64_id, w64u_id, Int.tmod_eq_emod_of_nonneg, Int.tdiv_eq_ediv_of_nonneg]) | (simp only [tm2, tm4, tm8, tm16, tm32, tm40, tm256, tm4096, tm65536, td2, td8, td16, td32, td64, td128, td256, w64_eq, decide_eq_true_eq, decide_eq_false_iff_not, not_and, Int.not_le, Int.not_lt] at *; omega))))))
  refine T.bind (S := fun v => ∃ b, v = (y, z, b, c, cb, imm, w)) (by (repeat' (with_reducible first | apply T.bindbind | (apply F16_t <;> intro _) | (apply F15_t <;> intro _) | (apply T.bindbr <;> intro _) | apply T.binds | (apply T.br <;> intro _) | apply T.csl | apply T.csr | (apply F62_r; intro _ _))) <;> exact T.ret ⟨_, rfl⟩) ?_
  rintro _ ⟨b1, rfl⟩
  refine T.br (fun _ => T.bind (F73_t K w h) fun r hr => T.bind (F67_t K r.2 hr.2 _ _ _ hr.1) fun r2 hr2 => T.ret hr2) fun _ => ?_
  refine T.bind (S := fun v => ∃ b, v = (y, z, b, c, cb, imm, w)) (by (repeat' (with_reducible first | apply T.bindbind | (apply F16_t <;> intro _) | (apply F15_t <;> intro _) | (apply T.bindbr <;> intro _) | apply T.binds | (apply T.br <;> intro _) | apply T.csl | apply T.csr | (apply F62_r; intro _ _))) <;> exact T.ret ⟨_, rfl⟩) ?_
  rintro _ ⟨b2, rfl⟩
  refine T.br (fun _ => T.bind (F70_t K w h _ _ hp.1) fun r hr => T.bind (F75_t K w h _ hr.1) fun r2 hr2 => T.ret hr2) fun _ => ?_
  refine T.bind (S := fun v => ∃ b, v = (y, z, b, c, cb, imm, w)) ?_ ?_
  · refine T.bind (S := fun v => ∃ b, v = (y, z, b, c, cb, imm, w)) ?_ ?_
    · exact T.br (fun _ => T.br (fun _ => T.bind (F65_t K w _) fun r hr => T.ret ⟨_, rfl⟩) fun _ => T.ret ⟨_, rfl⟩) fun _ => T.ret ⟨_, rfl⟩
    · rintro _ ⟨b, rfl⟩
      exact T.br (fun _ => T.ret ⟨_, rfl⟩) fun _ => T.ret ⟨_, rfl⟩
  rintro _ ⟨b3, rfl⟩
  refine T.br (fun _ => T.ret (h.set_pc hi)) fun _ => ?_
  refine T.bind (S := fun v => ∃ b, v = (y, z, b, c, cb, imm, w)) (by (repeat' (with_reducible first | apply T.bindbind | (apply F16_t <;> intro _) | (apply F15_t <;> intro _) | (apply T.bindbr <;> intro _) | apply T.binds | (apply T.br <;> intro _) | apply T.csl | apply T.csr | (apply F62_r; intro _ _))) <;> exact T.ret ⟨_, rfl⟩) ?_
  rintro _ ⟨b4, rfl⟩
  refine T.br (fun _ => T.ret (h.set_ime _)) fun _ => ?_
  refine T.bind (S := fun v => ∃ b, v = (y, z, b, c, cb, imm, w)) ?_ ?_
  · refine T.bind (S := fun v => ∃ b, v = (y, z, b, c, cb, imm, w)) ?_ ?_
    · exact T.br (fun _ => T.bind (F65_t K w _) fun r hr => T.ret ⟨_, rfl⟩) fun _ => T.ret ⟨_, rfl⟩
    · rintro _ ⟨b, rfl⟩
      exact T.br (fun _ => T.ret ⟨_, rfl⟩) fun _ => T.ret ⟨_, rfl⟩
  rintro _ ⟨b5, rfl⟩
  refine T.br (fun _ => T.bind (F76_t K w h _ hi) fun r hr => T.ret hr) fun _ => ?_
  refine T.br (fun g => ?_) fun _ => ?_
  · have g' : z = 6 := of_decide_eq_true g
    exact T.bind (F52_t K _ _ _ _ h.a ⟨hi.1, hz.2.2 g'⟩ ⟨h.f.1, h.f.2.1⟩) fun r hr => T.ret (h.set_af hr.1 hr.2)
  refine T.br (fun _ => T.bind (F76_t K w h _ (by (first | (dsimp only; (first | omega | ((simp (disch := omega) only [w64_id, w64u_id, Int.tmod_eq_emod_of_nonneg, Int.tdiv_eq_ediv_of_nonneg]); omega) | (simp (disch := omega) only [w64_id, w64u_id, Int.tmod_eq_emod_of_nonneg, Int.tdiv_eq_ediv_of_nonneg]) | (simp only [tm2, tm4, tm8, tm16, tm32, tm40, tm256, tm4096, tm65536, td2, td8, td16, td32, td64, td128, td256, w64_eq, decide_eq_true_eq, decide_eq_false_iff_not, not_and, Int.not_le, Int.not_lt] at *; omega))) | (first | omega | ((simp (disch := omega) only [w64_id, w64u_id, Int.tmod_eq_emod_of_nonneg, Int.tdiv_eq_ediv_of_nonneg]); omega) | (simp (disch := omega) only [w64_id, w64u_id, Int.tmod_eq_emod_of_nonneg, Int.tdiv_eq_ediv_of_nonneg]) | (simp only [tm2, tm4, tm8, tm16, tm32, tm40, tm256, tm4096, tm65536, td2, td8, td16, td32, td64, td128, td256, w64_eq, decide_eq_true_eq, decide_eq_false_iff_not, not_and, Int.not_le, Int.not_lt] at *; omega))))) fun r hr => T.ret hr) fun _ => T.ret h

/-- A machine and a code. -/
def MOut (r : Int × Int × Int × Int × Int × Int × Int × Int × Int × Int × Bool × Bool × List UInt8 × Int × Int × List UInt8 × Int × Bool × Int × List UInt8 × List UInt8 × List Int × Int × Int) : Prop := WInv (r.1, r.2.1, r.2.2.1, r.2.2.2.1, r.2.2.2.2.1, r.2.2.2.2.2.1, r.2.2.2.2.2.2.1, r.2.2.2.2.2.2.2.1, r.2.2.2.2.2.2.2.2.1, r.2.2.2.2.2.2.2.2.2.1, r.2.2.2.2.2.2.2.2.2.2.1, r.2.2.2.2.2.2.2.2.2.2.2.1, r.2.2.2.2.2.2.2.2.2.2.2.2.1, r.2.2.2.2.2.2.2.2.2.2.2.2.2.1, r.2.2.2.2.2.2.2.2.2.2.2.2.2.2.1, r.2.2.2.2.2.2.2.2.2.2.2.2.2.2.2.1, r.2.2.2.2.2.2.2.2.2.2.2.2.2.2.2.2.1, r.2.2.2.2.2.2.2.2.2.2.2.2.2.2.2.2.2.1, r.2.2.2.2.2.2.2.2.2.2.2.2.2.2.2.2.2.2.1, r.2.2.2.2.2.2.2.2.2.2.2.2.2.2.2.2.2.2.2.1, r.2.2.2.2.2.2.2.2.2.2.2.2.2.2.2.2.2.2.2.2.1, r.2.2.2.2.2.2.2.2.2.2.2.2.2.2.2.2.2.2.2.2.2.1, r.2.2.2.2.2.2.2.2.2.2.2.2.2.2.2.2.2.2.2.2.2.2.1, false) ∧ 0 ≤ r.2.2.2.2.2.2.2.2.2.2.2.2.2.2.2.2.2.2.2.2.2.2.2 ∧ r.2.2.2.2.2.2.2.2.2.2.2.2.2.2.2.2.2.2.2.2.2.2.2 ≤ 4

theorem F40_eq (K : Nat) (m : MT) (h : m.2.2.2.2.2.2.2.2.2.2.2.2.2.2.2.2.2.2.2.2.2.1.length ≤ 100) : F40 K m = some m := by
  unfold F40
  have : fitN (0 + m.2.2.2.2.2.2.2.2.2.2.2.2.2.2.2.2.2.2.2.2.2.1.length) 8 = true := by unfold fitN; exact decide_eq_true (by omega)
  rw [this]
  rfl

theorem F41_t (k : Nat) (m : MT) (h : WInv m.w) : T (F41 (k + 40) m) MOut := by
  have hout : m.2.2.2.2.2.2.2.2.2.2.2.2.2.2.2.2.2.2.2.2.2.1.length ≤ 100 := h.out.2
  have hpc : 0 ≤ m.2.2.2.2.2.2.2.2.2.1 ∧ m.2.2.2.2.2.2.2.2.2.1 ≤ 65535 := h.pc
  have hcy : 0 ≤ m.2.2.2.2.2.2.2.2.2.2.2.2.2.2.2.2.2.2.2.2.2.2 ∧ m.2.2.2.2.2.2.2.2.2.2.2.2.2.2.2.2.2.2.2.2.2.2 ≤ 1000000000 := h.cyc
  unfold F41
  refine T.br (fun _ => ?_) fun _ => ?_
  · rw [F40_eq _ m hout]
    exact T.binds (T.ret ⟨h, by dsimp only; omega, by dsimp only; omega⟩)
  refine T.bind (F47_t k m h) fun i hi => ?_
  refine T.br (fun _ => ?_) fun g => ?_
  · rw [F40_eq _ m hout]
    exact T.binds (T.ret ⟨h, by dsimp only; omega, by dsimp only; omega⟩)
  have g0 : ¬ i.2.2.2 = 0 := of_decide_eq_false g
  obtain ⟨hc, him, hn, h6⟩ : _ ∧ _ ∧ _ ∧ _ := hi.resolve_left g0
  have hp2 : 0 ≤ Int.tmod (w64 (m.2.2.2.2.2.2.2.2.2.1 + i.2.2.2)) 65536 ∧ Int.tmod (w64 (m.2.2.2.2.2.2.2.2.2.1 + i.2.2.2)) 65536 ≤ 65535 := by (first | omega | ((simp (disch := omega) only [w64_id, w64u_id, Int.tmod_eq_emod_of_nonneg, Int.tdiv_eq_ediv_of_nonneg]); omega) | (simp (disch := omega) only [w64_id, w64u_id, Int.tmod_eq_emod_of_nonneg, Int.tdiv_eq_ediv_of_nonneg]) | (simp only [tm2, tm4, tm8, tm16, tm32, tm40, tm256, tm4096, tm65536, td2, td8, td16, td32, td64, td128, td256, w64_eq, decide_eq_true_eq, decide_eq_false_iff_not, not_and, Int.not_le, Int.not_lt] at *; omega))
  have h2 := h.set_pc hp2
  refine T.bind (S := fun v => WInv (v.2.1, v.2.2.1, v.2.2.2.1, v.2.2.2.2.1, v.2.2.2.2.2.1, v.2.2.2.2.2.2.1, v.2.2.2.2.2.2.2.1, v.2.2.2.2.2.2.2.2.1, v.2.2.2.2.2.2.2.2.2.1, v.2.2.2.2.2.2.2.2.2.2.1, v.2.2.2.2.2.2.2.2.2.2.2.1, v.2.2.2.2.2.2.2.2.2.2.2.2.1, v.2.2.2.2.2.2.2.2.2.2.2.2.2.1, v.2.2.2.2.2.2.2.2.2.2.2.2.2.2.1, v.2.2.2.2.2.2.2.2.2.2.2.2.2.2.2.1, v.2.2.2.2.2.2.2.2.2.2.2.2.2.2.2.2.1, v.2.2.2.2.2.2.2.2.2.2.2.2.2.2.2.2.2.1, v.2.2.2.2.2.2.2.2.2.2.2.2.2.2.2.2.2.2.1, v.2.2.2.2.2.2.2.2.2.2.2.2.2.2.2.2.2.2.2.1, v.2.2.2.2.2.2.2.2.2.2.2.2.2.2.2.2.2.2.2.2.1, v.2.2.2.2.2.2.2.2.2.2.2.2.2.2.2.2.2.2.2.2.2.1, v.2.2.2.2.2.2.2.2.2.2.2.2.2.2.2.2.2.2.2.2.2.2.1, v.2.2.2.2.2.2.2.2.2.2.2.2.2.2.2.2.2.2.2.2.2.2.2.1, v.2.2.2.2.2.2.2.2.2.2.2.2.2.2.2.2.2.2.2.2.2.2.2.2.1) ∧ v.2.2.2.2.2.2.2.2.2.2.2.2.2.2.2.2.2.2.2.2.2.2.2.2.2.1 = i.1 ∧ v.2.2.2.2.2.2.2.2.2.2.2.2.2.2.2.2.2.2.2.2.2.2.2.2.2.2.1 = i.2.1 ∧ v.2.2.2.2.2.2.2.2.2.2.2.2.2.2.2.2.2.2.2.2.2.2.2.2.2.2.2.2.2.2.2.2.2.2.2.2.2.2.2.2.2.2.2.2.2.2.2.2.2.2.2 = m) ?_ fun v10 hv10 => ?_
  · refine T.br (fun _ => T.bind (F48_t _ _ h2 _ _ _ hc) fun r hr => T.ret ⟨hr, rfl, rfl, rfl⟩) fun gcb => ?_
    refine T.br (fun g2 => T.bind (F49_t _ _ h2 _ _ _ ⟨hc.1, by have := of_decide_eq_true g2; omega⟩ him (h6 gcb)) fun r hr => T.ret ⟨hr, rfl, rfl, rfl⟩) fun _ => ?_
    refine T.br (fun _ => T.ret ⟨h2.set_halted true, rfl, rfl, rfl⟩) fun _ => ?_
    have hz : 0 ≤ Int.tmod i.1 8 ∧ Int.tmod i.1 8 ≤ 7 := by (first | omega | ((simp (disch := omega) only [w64_id, w64u_id, Int.tmod_eq_emod_of_nonneg, Int.tdiv_eq_ediv_of_nonneg]); omega) | (simp (disch := omega) only [w64_id, w64u_id, Int.tmod_eq_emod_of_nonneg, Int.tdiv_eq_ediv_of_nonneg]) | (simp only [tm2, tm4, tm8, tm16, tm32, tm40, tm256, tm4096, tm65536, td2, td8, td16, td32, td64, td128, td256, w64_eq, decide_eq_true_eq, decide_eq_false_iff_not, not_and, Int.not_le, Int.not_lt] at *; omega))
    refine T.br (fun _ => T.bind (F51_t _ _ h2 _ hz) fun r hr => T.bind (F50_t _ _ h2 _ _ hr.1) fun r2 hr2 => T.ret ⟨hr2, rfl, rfl, rfl⟩) fun _ => ?_
    refine T.br (fun _ => T.bind (F51_t _ _ h2 _ hz) fun r hr => T.bind (F52_t _ _ _ _ _ h.a hr.1 ⟨h.f.1, h.f.2.1⟩) fun r2 hr2 => T.ret ⟨h2.set_af hr2.1 hr2.2, rfl, rfl, rfl⟩) fun _ => ?_
    exact T.bind (F53_t _ _ h2 _ _ _ hc him (h6 gcb)) fun r hr => T.ret ⟨hr, rfl, rfl, rfl⟩
  obtain ⟨hw, e1, e2, e3⟩ := hv10
  rw [e1, e2]
  refine T.bind (F54_t k _ _ _ hc) fun n hn6 => ?_
  have hcyc : w64 (m.2.2.2.2.2.2.2.2.2.2.2.2.2.2.2.2.2.2.2.2.2.2 + n) = m.2.2.2.2.2.2.2.2.2.2.2.2.2.2.2.2.2.2.2.2.2.2 + n := w64_id (by omega) (by omega)
  have e73 : v10.2.2.2.2.2.2.2.2.2.2.2.2.2.2.2.2.2.2.2.2.2.2.2.2.2.2.2.2.2.2.2.2.2.2.2.2.2.2.2.2.2.2.2.2.2.2.2.2.2.2.2.2.2.2.2.2.2.2.2.2.2.2.2.2.2.2.2.2.2.2.2.2.2 = m.2.2.2.2.2.2.2.2.2.2.2.2.2.2.2.2.2.2.2.2.2.2 := congrArg (fun m : MT => m.2.2.2.2.2.2.2.2.2.2.2.2.2.2.2.2.2.2.2.2.2.2) e3
  rw [e73, hcyc]
  refine T.bind (S := fun v => (∃ a, v = .inl a ∧ MOut a) ∨ (∃ b, v = .inr b ∧ WInv (b.1, b.2.1, b.2.2.1, b.2.2.2.1, b.2.2.2.2.1, b.2.2.2.2.2.1, b.2.2.2.2.2.2.1, b.2.2.2.2.2.2.2.1, b.2.2.2.2.2.2.2.2.1, b.2.2.2.2.2.2.2.2.2.1, b.2.2.2.2.2.2.2.2.2.2.1, b.2.2.2.2.2.2.2.2.2.2.2.1, b.2.2.2.2.2.2.2.2.2.2.2.2.1, b.2.2.2.2.2.2.2.2.2.2.2.2.2.1, b.2.2.2.2.2.2.2.2.2.2.2.2.2.2.1, b.2.2.2.2.2.2.2.2.2.2.2.2.2.2.2.1, b.2.2.2.2.2.2.2.2.2.2.2.2.2.2.2.2.1, b.2.2.2.2.2.2.2.2.2.2.2.2.2.2.2.2.2.1, b.2.2.2.2.2.2.2.2.2.2.2.2.2.2.2.2.2.2.1, b.2.2.2.2.2.2.2.2.2.2.2.2.2.2.2.2.2.2.2.1, b.2.2.2.2.2.2.2.2.2.2.2.2.2.2.2.2.2.2.2.2.1, b.2.2.2.2.2.2.2.2.2.2.2.2.2.2.2.2.2.2.2.2.2.1, b.2.2.2.2.2.2.2.2.2.2.2.2.2.2.2.2.2.2.2.2.2.2.1, false))) ?_ ?_
  · refine T.bind (S := fun v => WInv (v.2.1, v.2.2.1, v.2.2.2.1, v.2.2.2.2.1, v.2.2.2.2.2.1, v.2.2.2.2.2.2.1, v.2.2.2.2.2.2.2.1, v.2.2.2.2.2.2.2.2.1, v.2.2.2.2.2.2.2.2.2.1, v.2.2.2.2.2.2.2.2.2.2.1, v.2.2.2.2.2.2.2.2.2.2.2.1, v.2.2.2.2.2.2.2.2.2.2.2.2.1, v.2.2.2.2.2.2.2.2.2.2.2.2.2.1, v.2.2.2.2.2.2.2.2.2.2.2.2.2.2.1, v.2.2.2.2.2.2.2.2.2.2.2.2.2.2.2.1, v.2.2.2.2.2.2.2.2.2.2.2.2.2.2.2.2.1, v.2.2.2.2.2.2.2.2.2.2.2.2.2.2.2.2.2.1, v.2.2.2.2.2.2.2.2.2.2.2.2.2.2.2.2.2.2.1, v.2.2.2.2.2.2.2.2.2.2.2.2.2.2.2.2.2.2.2.1, v.2.2.2.2.2.2.2.2.2.2.2.2.2.2.2.2.2.2.2.2.1, v.2.2.2.2.2.2.2.2.2.2.2.2.2.2.2.2.2.2.2.2.2.1, v.2.2.2.2.2.2.2.2.2.2.2.2.2.2.2.2.2.2.2.2.2.2.1, 0, false) ∧ v.2.2.2.2.2.2.2.2.2.2.2.2.2.2.2.2.2.2.2.2.2.2.2.2.2.2.2.2.2.2.2.2.2.2.2.2.2.2.2.2.2.2.2.2.2.2.2.2 = m ∧ v.2.2.2.2.2.2.2.2.2.2.2.2.2.2.2.2.2.2.2.2.2.2.2.1 = m.2.2.2.2.2.2.2.2.2.2.2.2.2.2.2.2.2.2.2.2.2.2 + n ∧ (v.1 = false → m.2.2.2.2.2.2.2.2.2.2.2.2.2.2.2.2.2.2.2.2.2.2 + n ≤ 1000000000)) ?_ fun v12 hv12 => ?_
    · refine T.br (fun _ => T.ret ⟨hw.set_cyc ⟨Int.le_refl 0, by omega⟩ false, e3, rfl, fun e => by cases e⟩) fun _ => T.ret ⟨hw.set_cyc ⟨Int.le_refl 0, by omega⟩ false, e3, rfl, fun e => ?_⟩
      have := of_decide_eq_false e
      omega
    · obtain ⟨q1, q2, q3, q4⟩ := hv12
      refine T.br (fun _ => ?_) fun gq => ?_
      · rw [q2, F40_eq _ m hout]
        exact T.binds (T.ret (.inl ⟨_, rfl, h, by dsimp only; omega, by dsimp only; omega⟩))
      · rw [q3]
        exact T.ret (.inr ⟨_, rfl, q1.set_cyc ⟨by omega, q4 gq⟩ false⟩)
  · rintro _ (⟨a, rfl, ha⟩ | ⟨b, rfl, hb⟩)
    · exact T.csl (T.ret ha)
    · refine T.csr ?_
      exact T.eq (F40_eq _ (b.1, b.2.1, b.2.2.1, b.2.2.2.1, b.2.2.2.2.1, b.2.2.2.2.2.1, b.2.2.2.2.2.2.1, b.2.2.2.2.2.2.2.1, b.2.2.2.2.2.2.2.2.1, b.2.2.2.2.2.2.2.2.2.1, b.2.2.2.2.2.2.2.2.2.2.1, b.2.2.2.2.2.2.2.2.2.2.2.1, b.2.2.2.2.2.2.2.2.2.2.2.2.1, b.2.2.2.2.2.2.2.2.2.2.2.2.2.1, b.2.2.2.2.2.2.2.2.2.2.2.2.2.2.1, b.2.2.2.2.2.2.2.2.2.2.2.2.2.2.2.1, b.2.2.2.2.2.2.2.2.2.2.2.2.2.2.2.2.1, b.2.2.2.2.2.2.2.2.2.2.2.2.2.2.2.2.2.1, b.2.2.2.2.2.2.2.2.2.2.2.2.2.2.2.2.2.2.1, b.2.2.2.2.2.2.2.2.2.2.2.2.2.2.2.2.2.2.2.1, b.2.2.2.2.2.2.2.2.2.2.2.2.2.2.2.2.2.2.2.2.1, b.2.2.2.2.2.2.2.2.2.2.2.2.2.2.2.2.2.2.2.2.2.1, b.2.2.2.2.2.2.2.2.2.2.2.2.2.2.2.2.2.2.2.2.2.2.1) hb.out.2) (T.ret ⟨hb, by dsimp only; omega, by dsimp only; omega⟩)

theorem WInv.of {c0 c1 c2 c3 c4 c5 c6 c7 c8 c9 : Int} {b0 b1 : Bool} {rom : List UInt8} {k1 k2 : Int} {ram : List UInt8} {k3 : Int} {kb : Bool} {k4 : Int} {s1 s2 : List UInt8} {st : List Int} {n : Int} (h : mOk c0 c1 c2 c3 c4 c5 c6 c7 c8 c9 b0 b1 rom k1 k2 ram k3 kb k4 s1 s2 st n = true) (q : Bool) : WInv (c0, c1, c2, c3, c4, c5, c6, c7, c8, c9, b0, b1, rom, k1, k2, ram, k3, kb, k4, s1, s2, st, n, q) := by
  simp only [mOk, restOk, List.all_cons, List.all_nil, Bool.and_eq_true, Bool.and_true, byteB, inR, decide_eq_true_eq] at h
  obtain ⟨⟨⟨h0, h1, h2, h3, h4, h5, h6, h7⟩, hst⟩, ⟨⟨⟨⟨⟨⟨⟨hf, hsp⟩, hpc⟩, hca⟩, hwk⟩, hhi⟩, hle⟩, hcy⟩⟩ := h
  rw [Int.tmod_eq_emod_of_nonneg h1.1] at hf
  exact ⟨h0, ⟨h1.1, h1.2, hf⟩, h2, h3, h4, h5, h6, h7, hsp, hpc, CInv.of hca, by dsimp only; omega, by dsimp only; omega, ⟨hst, by dsimp only; omega⟩, hcy⟩

theorem WInv.mok {c0 c1 c2 c3 c4 c5 c6 c7 c8 c9 : Int} {b0 b1 : Bool} {rom : List UInt8} {k1 k2 : Int} {ram : List UInt8} {k3 : Int} {kb : Bool} {k4 : Int} {s1 s2 : List UInt8} {st : List Int} {n : Int} {q : Bool} (h : WInv (c0, c1, c2, c3, c4, c5, c6, c7, c8, c9, b0, b1, rom, k1, k2, ram, k3, kb, k4, s1, s2, st, n, q)) : mOk c0 c1 c2 c3 c4 c5 c6 c7 c8 c9 b0 b1 rom k1 k2 ram k3 kb k4 s1 s2 st n = true := by
  obtain ⟨h0, ⟨h1, h1', hf⟩, h2, h3, h4, h5, h6, h7, hsp, hpc, hca, hwk, hhi, ⟨hst, hle⟩, hcy⟩ := h
  dsimp only at *
  simp only [mOk, restOk, List.all_cons, List.all_nil, Bool.and_eq_true, Bool.and_true, byteB, inR, decide_eq_true_eq]
  exact ⟨⟨⟨h0, ⟨h1, h1'⟩, h2, h3, h4, h5, h6, h7⟩, hst⟩, ⟨⟨⟨⟨⟨⟨⟨by rw [Int.tmod_eq_emod_of_nonneg h1]; exact hf, hsp⟩, hpc⟩, hca.ok⟩, by omega⟩, by omega⟩, by omega⟩, hcy⟩⟩

/-- A machine that is not too long. -/
def MSm (m : MT) : Prop := m.2.2.2.2.2.2.2.2.2.2.2.2.1.length ≤ maxLen ∧ m.2.2.2.2.2.2.2.2.2.2.2.2.2.2.2.2.2.2.2.2.2.1.length ≤ 100
theorem WInv.sm {m : MT} (h : WInv m.w) : MSm m := ⟨by have := h.cart.hrom; change _ ∧ _ ∧ m.2.2.2.2.2.2.2.2.2.2.2.2.1.length ≤ 4096 at this; unfold maxLen; omega, h.out.2⟩

/-- Of a run: the machine, right where it ran. -/
def ROut (r : Int × Int × Int × Int × Int × Int × Int × Int × Int × Int × Bool × Bool × List UInt8 × Int × Int × List UInt8 × Int × Bool × Int × List UInt8 × List UInt8 × List Int × Int × Int × Int) : Prop := (r.2.2.2.2.2.2.2.2.2.2.2.2.2.2.2.2.2.2.2.2.2.2.2.1 = 3 ∧ MSm (r.1, r.2.1, r.2.2.1, r.2.2.2.1, r.2.2.2.2.1, r.2.2.2.2.2.1, r.2.2.2.2.2.2.1, r.2.2.2.2.2.2.2.1, r.2.2.2.2.2.2.2.2.1, r.2.2.2.2.2.2.2.2.2.1, r.2.2.2.2.2.2.2.2.2.2.1, r.2.2.2.2.2.2.2.2.2.2.2.1, r.2.2.2.2.2.2.2.2.2.2.2.2.1, r.2.2.2.2.2.2.2.2.2.2.2.2.2.1, r.2.2.2.2.2.2.2.2.2.2.2.2.2.2.1, r.2.2.2.2.2.2.2.2.2.2.2.2.2.2.2.1, r.2.2.2.2.2.2.2.2.2.2.2.2.2.2.2.2.1, r.2.2.2.2.2.2.2.2.2.2.2.2.2.2.2.2.2.1, r.2.2.2.2.2.2.2.2.2.2.2.2.2.2.2.2.2.2.1, r.2.2.2.2.2.2.2.2.2.2.2.2.2.2.2.2.2.2.2.1, r.2.2.2.2.2.2.2.2.2.2.2.2.2.2.2.2.2.2.2.2.1, r.2.2.2.2.2.2.2.2.2.2.2.2.2.2.2.2.2.2.2.2.2.1, r.2.2.2.2.2.2.2.2.2.2.2.2.2.2.2.2.2.2.2.2.2.2.1)) ∨ (WInv (r.1, r.2.1, r.2.2.1, r.2.2.2.1, r.2.2.2.2.1, r.2.2.2.2.2.1, r.2.2.2.2.2.2.1, r.2.2.2.2.2.2.2.1, r.2.2.2.2.2.2.2.2.1, r.2.2.2.2.2.2.2.2.2.1, r.2.2.2.2.2.2.2.2.2.2.1, r.2.2.2.2.2.2.2.2.2.2.2.1, r.2.2.2.2.2.2.2.2.2.2.2.2.1, r.2.2.2.2.2.2.2.2.2.2.2.2.2.1, r.2.2.2.2.2.2.2.2.2.2.2.2.2.2.1, r.2.2.2.2.2.2.2.2.2.2.2.2.2.2.2.1, r.2.2.2.2.2.2.2.2.2.2.2.2.2.2.2.2.1, r.2.2.2.2.2.2.2.2.2.2.2.2.2.2.2.2.2.1, r.2.2.2.2.2.2.2.2.2.2.2.2.2.2.2.2.2.2.1, r.2.2.2.2.2.2.2.2.2.2.2.2.2.2.2.2.2.2.2.1, r.2.2.2.2.2.2.2.2.2.2.2.2.2.2.2.2.2.2.2.2.1, r.2.2.2.2.2.2.2.2.2.2.2.2.2.2.2.2.2.2.2.2.2.1, r.2.2.2.2.2.2.2.2.2.2.2.2.2.2.2.2.2.2.2.2.2.2.1, false) ∧ 0 ≤ r.2.2.2.2.2.2.2.2.2.2.2.2.2.2.2.2.2.2.2.2.2.2.2.1 ∧ r.2.2.2.2.2.2.2.2.2.2.2.2.2.2.2.2.2.2.2.2.2.2.2.1 ≤ 4)

theorem F26_t (k : Nat) (m : MT) (n : Int) (hm : MSm m) : T (F26 (k + 600) (m.1, m.2.1, m.2.2.1, m.2.2.2.1, m.2.2.2.2.1, m.2.2.2.2.2.1, m.2.2.2.2.2.2.1, m.2.2.2.2.2.2.2.1, m.2.2.2.2.2.2.2.2.1, m.2.2.2.2.2.2.2.2.2.1, m.2.2.2.2.2.2.2.2.2.2.1, m.2.2.2.2.2.2.2.2.2.2.2.1, m.2.2.2.2.2.2.2.2.2.2.2.2.1, m.2.2.2.2.2.2.2.2.2.2.2.2.2.1, m.2.2.2.2.2.2.2.2.2.2.2.2.2.2.1, m.2.2.2.2.2.2.2.2.2.2.2.2.2.2.2.1, m.2.2.2.2.2.2.2.2.2.2.2.2.2.2.2.2.1, m.2.2.2.2.2.2.2.2.2.2.2.2.2.2.2.2.2.1, m.2.2.2.2.2.2.2.2.2.2.2.2.2.2.2.2.2.2.1, m.2.2.2.2.2.2.2.2.2.2.2.2.2.2.2.2.2.2.2.1, m.2.2.2.2.2.2.2.2.2.2.2.2.2.2.2.2.2.2.2.2.1, m.2.2.2.2.2.2.2.2.2.2.2.2.2.2.2.2.2.2.2.2.2.1, m.2.2.2.2.2.2.2.2.2.2.2.2.2.2.2.2.2.2.2.2.2.2, n)) ROut := by
  unfold F26
  refine T.bind (S := fun v => (∃ a, v = .inl a ∧ ROut a) ∨ (v = .inr (n, 0, 0, 0, 0, 0, 0, 0, 0, 0, 0, false, false, [], 0, 0, [], 0, false, 0, [], [], [], 0, m) ∧ WInv m.w ∧ 0 ≤ n ∧ n ≤ 500)) ?_ ?_
  · refine T.bind (S := fun v => ∃ b, v = (n, b, 0, 0, 0, 0, 0, 0, 0, 0, 0, 0, false, false, [], 0, 0, [], 0, false, 0, [], [], [], 0, m) ∧ (b = false → WInv m.w ∧ 0 ≤ n ∧ n ≤ 500)) ?_ ?_
    · have e8 : F8 (k + 600) (m.1, m.2.1, m.2.2.1, m.2.2.2.1, m.2.2.2.2.1, m.2.2.2.2.2.1, m.2.2.2.2.2.2.1, m.2.2.2.2.2.2.2.1, m.2.2.2.2.2.2.2.2.1, m.2.2.2.2.2.2.2.2.2.1, m.2.2.2.2.2.2.2.2.2.2.1, m.2.2.2.2.2.2.2.2.2.2.2.1, m.2.2.2.2.2.2.2.2.2.2.2.2.1, m.2.2.2.2.2.2.2.2.2.2.2.2.2.1, m.2.2.2.2.2.2.2.2.2.2.2.2.2.2.1, m.2.2.2.2.2.2.2.2.2.2.2.2.2.2.2.1, m.2.2.2.2.2.2.2.2.2.2.2.2.2.2.2.2.1, m.2.2.2.2.2.2.2.2.2.2.2.2.2.2.2.2.2.1, m.2.2.2.2.2.2.2.2.2.2.2.2.2.2.2.2.2.2.1, m.2.2.2.2.2.2.2.2.2.2.2.2.2.2.2.2.2.2.2.1, m.2.2.2.2.2.2.2.2.2.2.2.2.2.2.2.2.2.2.2.2.1, m.2.2.2.2.2.2.2.2.2.2.2.2.2.2.2.2.2.2.2.2.2.1, m.2.2.2.2.2.2.2.2.2.2.2.2.2.2.2.2.2.2.2.2.2.2) = _ := F8_eq (k + 600) m.1 m.2.1 m.2.2.1 m.2.2.2.1 m.2.2.2.2.1 m.2.2.2.2.2.1 m.2.2.2.2.2.2.1 m.2.2.2.2.2.2.2.1 m.2.2.2.2.2.2.2.2.1 m.2.2.2.2.2.2.2.2.2.1 m.2.2.2.2.2.2.2.2.2.2.1 m.2.2.2.2.2.2.2.2.2.2.2.1 m.2.2.2.2.2.2.2.2.2.2.2.2.1 m.2.2.2.2.2.2.2.2.2.2.2.2.2.1 m.2.2.2.2.2.2.2.2.2.2.2.2.2.2.1 m.2.2.2.2.2.2.2.2.2.2.2.2.2.2.2.1 m.2.2.2.2.2.2.2.2.2.2.2.2.2.2.2.2.1 m.2.2.2.2.2.2.2.2.2.2.2.2.2.2.2.2.2.1 m.2.2.2.2.2.2.2.2.2.2.2.2.2.2.2.2.2.2.1 m.2.2.2.2.2.2.2.2.2.2.2.2.2.2.2.2.2.2.2.1 m.2.2.2.2.2.2.2.2.2.2.2.2.2.2.2.2.2.2.2.2.1 m.2.2.2.2.2.2.2.2.2.2.2.2.2.2.2.2.2.2.2.2.2.1 m.2.2.2.2.2.2.2.2.2.2.2.2.2.2.2.2.2.2.2.2.2.2 hm.1 (by have := hm.2; unfold maxLen; omega) (by have := hm.2; omega)
      refine T.eq e8 ?_
      refine T.br (fun _ => T.ret ⟨true, rfl, fun e => by cases e⟩) fun g => ?_
      have hok : mOk m.1 m.2.1 m.2.2.1 m.2.2.2.1 m.2.2.2.2.1 m.2.2.2.2.2.1 m.2.2.2.2.2.2.1 m.2.2.2.2.2.2.2.1 m.2.2.2.2.2.2.2.2.1 m.2.2.2.2.2.2.2.2.2.1 m.2.2.2.2.2.2.2.2.2.2.1 m.2.2.2.2.2.2.2.2.2.2.2.1 m.2.2.2.2.2.2.2.2.2.2.2.2.1 m.2.2.2.2.2.2.2.2.2.2.2.2.2.1 m.2.2.2.2.2.2.2.2.2.2.2.2.2.2.1 m.2.2.2.2.2.2.2.2.2.2.2.2.2.2.2.1 m.2.2.2.2.2.2.2.2.2.2.2.2.2.2.2.2.1 m.2.2.2.2.2.2.2.2.2.2.2.2.2.2.2.2.2.1 m.2.2.2.2.2.2.2.2.2.2.2.2.2.2.2.2.2.2.1 m.2.2.2.2.2.2.2.2.2.2.2.2.2.2.2.2.2.2.2.1 m.2.2.2.2.2.2.2.2.2.2.2.2.2.2.2.2.2.2.2.2.1 m.2.2.2.2.2.2.2.2.2.2.2.2.2.2.2.2.2.2.2.2.2.1 m.2.2.2.2.2.2.2.2.2.2.2.2.2.2.2.2.2.2.2.2.2.2 = true := by simpa using g
      refine F18_t _ _ _ _ (fun g2 => T.ret ⟨false, rfl, fun _ => ⟨WInv.of hok false, g2⟩⟩) fun g2 => T.ret ⟨true, rfl, fun e => by cases e⟩
    · rintro _ ⟨b, rfl, hb⟩
      refine T.br (fun _ => T.ret (.inl ⟨_, rfl, .inl ⟨rfl, Nat.zero_le _, Nat.zero_le _⟩⟩)) fun g => T.ret (.inr ⟨rfl, hb g⟩)
  · rintro _ (⟨a, rfl, ha⟩ | ⟨rfl, hw, hn⟩)
    · exact T.csl (T.ret ha)
    refine T.csr ?_
    have e40 := F40_eq (k + 600) m hw.out.2
    refine T.eq e40 ?_
    obtain ⟨b, h1, h2⟩ := iter_inv (f := F26_b0 (k + 600)) (fun a => a.1 = n ∧ 0 ≤ a.2.1 ∧ a.2.1 ≤ n ∧ WInv (a.2.2.1, a.2.2.2.1, a.2.2.2.2.1, a.2.2.2.2.2.1, a.2.2.2.2.2.2.1, a.2.2.2.2.2.2.2.1, a.2.2.2.2.2.2.2.2.1, a.2.2.2.2.2.2.2.2.2.1, a.2.2.2.2.2.2.2.2.2.2.1, a.2.2.2.2.2.2.2.2.2.2.2.1, a.2.2.2.2.2.2.2.2.2.2.2.2.1, a.2.2.2.2.2.2.2.2.2.2.2.2.2.1, a.2.2.2.2.2.2.2.2.2.2.2.2.2.2.1, a.2.2.2.2.2.2.2.2.2.2.2.2.2.2.2.1, a.2.2.2.2.2.2.2.2.2.2.2.2.2.2.2.2.1, a.2.2.2.2.2.2.2.2.2.2.2.2.2.2.2.2.2.1, a.2.2.2.2.2.2.2.2.2.2.2.2.2.2.2.2.2.2.1, a.2.2.2.2.2.2.2.2.2.2.2.2.2.2.2.2.2.2.2.1, a.2.2.2.2.2.2.2.2.2.2.2.2.2.2.2.2.2.2.2.2.1, a.2.2.2.2.2.2.2.2.2.2.2.2.2.2.2.2.2.2.2.2.2.1, a.2.2.2.2.2.2.2.2.2.2.2.2.2.2.2.2.2.2.2.2.2.2.1, a.2.2.2.2.2.2.2.2.2.2.2.2.2.2.2.2.2.2.2.2.2.2.2.1, a.2.2.2.2.2.2.2.2.2.2.2.2.2.2.2.2.2.2.2.2.2.2.2.2.1, false)) (fun a => (n - a.2.1).toNat) (fun b => match b with | .inl a => ROut a | .inr a => WInv (a.2.1, a.2.2.1, a.2.2.2.1, a.2.2.2.2.1, a.2.2.2.2.2.1, a.2.2.2.2.2.2.1, a.2.2.2.2.2.2.2.1, a.2.2.2.2.2.2.2.2.1, a.2.2.2.2.2.2.2.2.2.1, a.2.2.2.2.2.2.2.2.2.2.1, a.2.2.2.2.2.2.2.2.2.2.2.1, a.2.2.2.2.2.2.2.2.2.2.2.2.1, a.2.2.2.2.2.2.2.2.2.2.2.2.2.1, a.2.2.2.2.2.2.2.2.2.2.2.2.2.2.1, a.2.2.2.2.2.2.2.2.2.2.2.2.2.2.2.1, a.2.2.2.2.2.2.2.2.2.2.2.2.2.2.2.2.1, a.2.2.2.2.2.2.2.2.2.2.2.2.2.2.2.2.2.1, a.2.2.2.2.2.2.2.2.2.2.2.2.2.2.2.2.2.2.1, a.2.2.2.2.2.2.2.2.2.2.2.2.2.2.2.2.2.2.2.1, a.2.2.2.2.2.2.2.2.2.2.2.2.2.2.2.2.2.2.2.2.1, a.2.2.2.2.2.2.2.2.2.2.2.2.2.2.2.2.2.2.2.2.2.1, a.2.2.2.2.2.2.2.2.2.2.2.2.2.2.2.2.2.2.2.2.2.2.1, a.2.2.2.2.2.2.2.2.2.2.2.2.2.2.2.2.2.2.2.2.2.2.2.1, false)) (fun a ⟨g0, g1, g2, g3⟩ => by
      obtain ⟨r, e, hr⟩ := F41_t (k + 560) (a.2.2.1, a.2.2.2.1, a.2.2.2.2.1, a.2.2.2.2.2.1, a.2.2.2.2.2.2.1, a.2.2.2.2.2.2.2.1, a.2.2.2.2.2.2.2.2.1, a.2.2.2.2.2.2.2.2.2.1, a.2.2.2.2.2.2.2.2.2.2.1, a.2.2.2.2.2.2.2.2.2.2.2.1, a.2.2.2.2.2.2.2.2.2.2.2.2.1, a.2.2.2.2.2.2.2.2.2.2.2.2.2.1, a.2.2.2.2.2.2.2.2.2.2.2.2.2.2.1, a.2.2.2.2.2.2.2.2.2.2.2.2.2.2.2.1, a.2.2.2.2.2.2.2.2.2.2.2.2.2.2.2.2.1, a.2.2.2.2.2.2.2.2.2.2.2.2.2.2.2.2.2.1, a.2.2.2.2.2.2.2.2.2.2.2.2.2.2.2.2.2.2.1, a.2.2.2.2.2.2.2.2.2.2.2.2.2.2.2.2.2.2.2.1, a.2.2.2.2.2.2.2.2.2.2.2.2.2.2.2.2.2.2.2.2.1, a.2.2.2.2.2.2.2.2.2.2.2.2.2.2.2.2.2.2.2.2.2.1, a.2.2.2.2.2.2.2.2.2.2.2.2.2.2.2.2.2.2.2.2.2.2.1, a.2.2.2.2.2.2.2.2.2.2.2.2.2.2.2.2.2.2.2.2.2.2.2.1, a.2.2.2.2.2.2.2.2.2.2.2.2.2.2.2.2.2.2.2.2.2.2.2.2.1) g3
      have e' : F41 (k + 600) (a.2.2.1, a.2.2.2.1, a.2.2.2.2.1, a.2.2.2.2.2.1, a.2.2.2.2.2.2.1, a.2.2.2.2.2.2.2.1, a.2.2.2.2.2.2.2.2.1, a.2.2.2.2.2.2.2.2.2.1, a.2.2.2.2.2.2.2.2.2.2.1, a.2.2.2.2.2.2.2.2.2.2.2.1, a.2.2.2.2.2.2.2.2.2.2.2.2.1, a.2.2.2.2.2.2.2.2.2.2.2.2.2.1, a.2.2.2.2.2.2.2.2.2.2.2.2.2.2.1, a.2.2.2.2.2.2.2.2.2.2.2.2.2.2.2.1, a.2.2.2.2.2.2.2.2.2.2.2.2.2.2.2.2.1, a.2.2.2.2.2.2.2.2.2.2.2.2.2.2.2.2.2.1, a.2.2.2.2.2.2.2.2.2.2.2.2.2.2.2.2.2.2.1, a.2.2.2.2.2.2.2.2.2.2.2.2.2.2.2.2.2.2.2.1, a.2.2.2.2.2.2.2.2.2.2.2.2.2.2.2.2.2.2.2.2.1, a.2.2.2.2.2.2.2.2.2.2.2.2.2.2.2.2.2.2.2.2.2.1, a.2.2.2.2.2.2.2.2.2.2.2.2.2.2.2.2.2.2.2.2.2.2.1, a.2.2.2.2.2.2.2.2.2.2.2.2.2.2.2.2.2.2.2.2.2.2.2.1, a.2.2.2.2.2.2.2.2.2.2.2.2.2.2.2.2.2.2.2.2.2.2.2.2.1) = some r := e
      by_cases g : a.2.1 < a.1
      · by_cases gc : r.2.2.2.2.2.2.2.2.2.2.2.2.2.2.2.2.2.2.2.2.2.2.2 = 0
        · refine .inl ⟨(a.1, a.2.1 + 1, r.1, r.2.1, r.2.2.1, r.2.2.2.1, r.2.2.2.2.1, r.2.2.2.2.2.1, r.2.2.2.2.2.2.1, r.2.2.2.2.2.2.2.1, r.2.2.2.2.2.2.2.2.1, r.2.2.2.2.2.2.2.2.2.1, r.2.2.2.2.2.2.2.2.2.2.1, r.2.2.2.2.2.2.2.2.2.2.2.1, r.2.2.2.2.2.2.2.2.2.2.2.2.1, r.2.2.2.2.2.2.2.2.2.2.2.2.2.1, r.2.2.2.2.2.2.2.2.2.2.2.2.2.2.1, r.2.2.2.2.2.2.2.2.2.2.2.2.2.2.2.1, r.2.2.2.2.2.2.2.2.2.2.2.2.2.2.2.2.1, r.2.2.2.2.2.2.2.2.2.2.2.2.2.2.2.2.2.1, r.2.2.2.2.2.2.2.2.2.2.2.2.2.2.2.2.2.2.1, r.2.2.2.2.2.2.2.2.2.2.2.2.2.2.2.2.2.2.2.1, r.2.2.2.2.2.2.2.2.2.2.2.2.2.2.2.2.2.2.2.2.1, r.2.2.2.2.2.2.2.2.2.2.2.2.2.2.2.2.2.2.2.2.2.1, r.2.2.2.2.2.2.2.2.2.2.2.2.2.2.2.2.2.2.2.2.2.2.1, a.2.2.2.2.2.2.2.2.2.2.2.2.2.2.2.2.2.2.2.2.2.2.2.2.2), ?_, ⟨g0, by dsimp only; omega, by dsimp only; omega, hr.1⟩, by dsimp only; omega⟩
          have e1 : w64 (a.2.1 + 1) = a.2.1 + 1 := w64_id (by omega) (by omega)
          simp only [F26_b0, branch_ite, if_pos g, e', bindO_s, branch_not, if_pos gc, e1]
        · refine .inr ⟨.inl (a.2.2.1, a.2.2.2.1, a.2.2.2.2.1, a.2.2.2.2.2.1, a.2.2.2.2.2.2.1, a.2.2.2.2.2.2.2.1, a.2.2.2.2.2.2.2.2.1, a.2.2.2.2.2.2.2.2.2.1, a.2.2.2.2.2.2.2.2.2.2.1, a.2.2.2.2.2.2.2.2.2.2.2.1, a.2.2.2.2.2.2.2.2.2.2.2.2.1, a.2.2.2.2.2.2.2.2.2.2.2.2.2.1, a.2.2.2.2.2.2.2.2.2.2.2.2.2.2.1, a.2.2.2.2.2.2.2.2.2.2.2.2.2.2.2.1, a.2.2.2.2.2.2.2.2.2.2.2.2.2.2.2.2.1, a.2.2.2.2.2.2.2.2.2.2.2.2.2.2.2.2.2.1, a.2.2.2.2.2.2.2.2.2.2.2.2.2.2.2.2.2.2.1, a.2.2.2.2.2.2.2.2.2.2.2.2.2.2.2.2.2.2.2.1, a.2.2.2.2.2.2.2.2.2.2.2.2.2.2.2.2.2.2.2.2.1, a.2.2.2.2.2.2.2.2.2.2.2.2.2.2.2.2.2.2.2.2.2.1, a.2.2.2.2.2.2.2.2.2.2.2.2.2.2.2.2.2.2.2.2.2.2.1, a.2.2.2.2.2.2.2.2.2.2.2.2.2.2.2.2.2.2.2.2.2.2.2.1, a.2.2.2.2.2.2.2.2.2.2.2.2.2.2.2.2.2.2.2.2.2.2.2.2.1, r.2.2.2.2.2.2.2.2.2.2.2.2.2.2.2.2.2.2.2.2.2.2.2, a.2.1), ?_, .inr ⟨g3, hr.2⟩⟩
          simp only [F26_b0, branch_ite, if_pos g, e', bindO_s, branch_not, if_neg gc]
      · exact .inr ⟨.inr (a.1, a.2.2), by simp only [F26_b0, branch_ite, if_neg g], g3⟩) (k + 600) (n, 0, m.1, m.2.1, m.2.2.1, m.2.2.2.1, m.2.2.2.2.1, m.2.2.2.2.2.1, m.2.2.2.2.2.2.1, m.2.2.2.2.2.2.2.1, m.2.2.2.2.2.2.2.2.1, m.2.2.2.2.2.2.2.2.2.1, m.2.2.2.2.2.2.2.2.2.2.1, m.2.2.2.2.2.2.2.2.2.2.2.1, m.2.2.2.2.2.2.2.2.2.2.2.2.1, m.2.2.2.2.2.2.2.2.2.2.2.2.2.1, m.2.2.2.2.2.2.2.2.2.2.2.2.2.2.1, m.2.2.2.2.2.2.2.2.2.2.2.2.2.2.2.1, m.2.2.2.2.2.2.2.2.2.2.2.2.2.2.2.2.1, m.2.2.2.2.2.2.2.2.2.2.2.2.2.2.2.2.2.1, m.2.2.2.2.2.2.2.2.2.2.2.2.2.2.2.2.2.2.1, m.2.2.2.2.2.2.2.2.2.2.2.2.2.2.2.2.2.2.2.1, m.2.2.2.2.2.2.2.2.2.2.2.2.2.2.2.2.2.2.2.2.1, m.2.2.2.2.2.2.2.2.2.2.2.2.2.2.2.2.2.2.2.2.2.1, m.2.2.2.2.2.2.2.2.2.2.2.2.2.2.2.2.2.2.2.2.2.2, 0, 0, 0, 0, 0, 0, 0, 0, 0, 0, false, false, [], 0, 0, [], 0, false, 0, [], [], [], 0) ⟨rfl, Int.le_refl 0, hn.1, hw⟩ (by dsimp only; omega)
    refine T.eq h1 ?_
    cases b with
    | inl a => exact T.csl (T.ret h2)
    | inr a => exact T.csr (T.ret (.inr ⟨h2, by dsimp only; omega, by dsimp only; omega⟩))

end Go.U.Try
