/- A step of the machine always answers, and leaves it right. No condition. -/
import Derived.Test.YtaplcmgnmkfgjaaPSu
set_option linter.unusedVariables false
set_option linter.unusedSimpArgs false
set_option linter.unusedSectionVars false
namespace Go.U.Try
open Go Go.U
set_option linter.unusedVariables false
set_option linter.unusedSimpArgs false
set_option maxRecDepth 20000

/-- What is read of bytes: an instruction, or none. -/
def InsRd (r : Int × Bool × Int × Int) : Prop := r.2.2.2 = 0 ∨ ((0 ≤ r.1 ∧ r.1 ≤ 255) ∧ (0 ≤ r.2.2.1 ∧ r.2.2.1 ≤ 65535) ∧ (1 ≤ r.2.2.2 ∧ r.2.2.2 ≤ 3) ∧ (r.2.1 = false → r.1 % 8 = 6 → r.2.2.1 ≤ 255))

theorem F86_t (K : Nat) (s : List UInt8) (i : Int) (h0 : 0 ≤ i) (h1 : i < (s.length : Int)) : T (F86 K (s, i)) fun r => 0 ≤ r ∧ r ≤ 255 := by
  unfold F86
  exact T.nth h0 h1 fun v _ _ => T.ret (byte_u8 v)

theorem F60_t (k : Nat) (s : List UInt8) (hs : s.length = 3) : T (F60 (k + 40) (s, 0)) InsRd := by
  have e3 : w64 ((s.length : Int) - 0) = 3 := by rw [hs]; rfl
  unfold F60
  dsimp only
  rw [e3]
  refine T.bind (S := fun v => v = .inr (s, 0, 3, 0, false, 0)) (by (repeat' (with_reducible first | apply T.bindbind | (apply F16_t <;> intro _) | (apply F15_t <;> intro _) | (apply T.bindbr <;> intro _) | apply T.binds | (apply T.br <;> intro _) | apply T.csl | apply T.csr | (apply F62_r; intro _ _))) <;> first | contradiction | exact T.ret rfl | simp_all) ?_
  rintro _ rfl
  refine T.csr (T.bind (F86_t _ s 0 (by decide) (by omega)) fun c hc => ?_)
  refine T.br (fun _ => T.br (fun g => absurd (of_decide_eq_true g) (by dsimp only; decide)) fun _ => ?_) fun _ => ?_
  · refine T.bind (F86_t _ s _ (by dsimp only; decide) (by show w64 (0 + 1) < _; rw [hs]; decide)) fun c2 hc2 => T.ret (.inr ⟨hc2, ⟨Int.le_refl 0, by dsimp only; omega⟩, ⟨by dsimp only; omega, by dsimp only; omega⟩, fun e => by cases e⟩)
  · refine T.bind (F45_t k c false hc) fun n hn => ?_
    refine T.bind (S := fun v => (v = .inl (0, false, 0, 0)) ∨ (v = .inr (s, 0, n, c, false, 0, 0, false, 0) ∧ ¬ n = 0)) ?_ ?_
    · refine T.bindbr (fun g => T.binds (T.br (fun _ => T.ret (.inl rfl)) nofun)) fun g => T.binds (T.br (fun _ => T.ret (.inl rfl)) fun _ => T.ret (.inr ⟨rfl, of_decide_eq_false g⟩))
    · rintro _ (rfl | ⟨rfl, hn0⟩)
      · exact T.csl (T.ret (.inl rfl))
      · refine T.csr (T.bind (S := fun v => ∃ i, v = (s, 0, n, c, false, i, 0, false, 0) ∧ 0 ≤ i ∧ i ≤ 255 ∧ (¬ 1 < n → i = 0)) ?_ ?_)
        · refine T.br (fun g => T.bind (F86_t _ s _ (by dsimp only; decide) (by show w64 (0 + 1) < _; rw [hs]; decide)) fun i hi => T.ret ⟨i, rfl, hi.1, hi.2, fun e => absurd (of_decide_eq_true g) e⟩) fun g => T.ret ⟨0, rfl, by decide, by decide, fun _ => rfl⟩
        · rintro _ ⟨i, rfl, hi0, hi1, _⟩
          refine T.br (fun g => ?_) fun g => T.ret (.inr ⟨hc, by dsimp only; omega, by dsimp only; omega, fun _ _ => by dsimp only; omega⟩)
          have g' : 2 < n := of_decide_eq_true g
          refine T.bind (F86_t _ s _ (by dsimp only; decide) (by show w64 (0 + 2) < _; rw [hs]; decide)) fun i2 hi2 => T.ret (.inr ⟨hc, ?_, by dsimp only; omega, fun e e2 => ?_⟩)
          · dsimp only; (first | omega | ((simp (disch := omega) only [w64_id, w64u_id, Int.tmod_eq_emod_of_nonneg, Int.tdiv_eq_ediv_of_nonneg]); omega) | (simp (disch := omega) only [w64_id, w64u_id, Int.tmod_eq_emod_of_nonneg, Int.tdiv_eq_ediv_of_nonneg]) | (simp only [tm2, tm4, tm8, tm16, tm32, tm40, tm256, tm4096, tm65536, td2, td8, td16, td32, td64, td128, td256, w64_eq, decide_eq_true_eq, decide_eq_false_iff_not, not_and, Int.not_le, Int.not_lt] at *; omega))
          · have := hn.2.2 rfl e2; omega

/-- A machine by itself. -/
abbrev MT := Int × Int × Int × Int × Int × Int × Int × Int × Int × Int × Bool × Bool × List UInt8 × Int × Int × List UInt8 × Int × Bool × Int × List UInt8 × List UInt8 × List Int × Int
def MT.w (m : MT) : WT := (m.1, m.2.1, m.2.2.1, m.2.2.2.1, m.2.2.2.2.1, m.2.2.2.2.2.1, m.2.2.2.2.2.2.1, m.2.2.2.2.2.2.2.1, m.2.2.2.2.2.2.2.2.1, m.2.2.2.2.2.2.2.2.2.1, m.2.2.2.2.2.2.2.2.2.2.1, m.2.2.2.2.2.2.2.2.2.2.2.1, m.2.2.2.2.2.2.2.2.2.2.2.2.1, m.2.2.2.2.2.2.2.2.2.2.2.2.2.1, m.2.2.2.2.2.2.2.2.2.2.2.2.2.2.1, m.2.2.2.2.2.2.2.2.2.2.2.2.2.2.2.1, m.2.2.2.2.2.2.2.2.2.2.2.2.2.2.2.2.1, m.2.2.2.2.2.2.2.2.2.2.2.2.2.2.2.2.2.1, m.2.2.2.2.2.2.2.2.2.2.2.2.2.2.2.2.2.2.1, m.2.2.2.2.2.2.2.2.2.2.2.2.2.2.2.2.2.2.2.1, m.2.2.2.2.2.2.2.2.2.2.2.2.2.2.2.2.2.2.2.2.1, m.2.2.2.2.2.2.2.2.2.2.2.2.2.2.2.2.2.2.2.2.2.1, m.2.2.2.2.2.2.2.2.2.2.2.2.2.2.2.2.2.2.2.2.2.2, false)
def WT.m (w : WT) : MT := (w.1, w.2.1, w.2.2.1, w.2.2.2.1, w.2.2.2.2.1, w.2.2.2.2.2.1, w.2.2.2.2.2.2.1, w.2.2.2.2.2.2.2.1, w.2.2.2.2.2.2.2.2.1, w.2.2.2.2.2.2.2.2.2.1, w.2.2.2.2.2.2.2.2.2.2.1, w.2.2.2.2.2.2.2.2.2.2.2.1, w.2.2.2.2.2.2.2.2.2.2.2.2.1, w.2.2.2.2.2.2.2.2.2.2.2.2.2.1, w.2.2.2.2.2.2.2.2.2.2.2.2.2.2.1, w.2.2.2.2.2.2.2.2.2.2.2.2.2.2.2.1, w.2.2.2.2.2.2.2.2.2.2.2.2.2.2.2.2.1, w.2.2.2.2.2.2.2.2.2.2.2.2.2.2.2.2.2.1, w.2.2.2.2.2.2.2.2.2.2.2.2.2.2.2.2.2.2.1, w.2.2.2.2.2.2.2.2.2.2.2.2.2.2.2.2.2.2.2.1, w.2.2.2.2.2.2.2.2.2.2.2.2.2.2.2.2.2.2.2.2.1, w.2.2.2.2.2.2.2.2.2.2.2.2.2.2.2.2.2.2.2.2.2.1, w.2.2.2.2.2.2.2.2.2.2.2.2.2.2.2.2.2.2.2.2.2.2.1)

theorem F47_t (k : Nat) (m : MT) (h : WInv m.w) : T (F47 (k + 40) m) InsRd := by
  obtain ⟨b, h1, h2⟩ := iter_inv (f := F47_b0 (k + 40)) (fun a => 0 ≤ a.1 ∧ a.1 ≤ 3 ∧ (a.2.1.length : Int) = a.1 ∧ a.2.2.2.2.2 = m) (fun a => (3 - a.1).toNat) (fun b => b.1.length = 3) (fun a ⟨g0, g1, g2, g3⟩ => by
    obtain ⟨i, l, c0, c1, c2, mm⟩ := a
    simp only at g0 g1 g2 g3
    subst g3
    by_cases g : i < 3
    · have hp := h.pc
      change 0 ≤ mm.2.2.2.2.2.2.2.2.2.1 ∧ mm.2.2.2.2.2.2.2.2.2.1 ≤ 65535 at hp
      obtain ⟨v, e, hv⟩ := F59_t (k + 40) (MT.w mm) h (Int.tmod (w64 (mm.2.2.2.2.2.2.2.2.2.1 + i)) 65536) (Int.tmod_nonneg _ (by (first | omega | ((simp (disch := omega) only [w64_id, w64u_id, Int.tmod_eq_emod_of_nonneg, Int.tdiv_eq_ediv_of_nonneg]); omega) | (simp (disch := omega) only [w64_id, w64u_id, Int.tmod_eq_emod_of_nonneg, Int.tdiv_eq_ediv_of_nonneg]) | (simp only [tm2, tm4, tm8, tm16, tm32, tm40, tm256, tm4096, tm65536, td2, td8, td16, td32, td64, td128, td256, w64_eq, decide_eq_true_eq, decide_eq_false_iff_not, not_and, Int.not_le, Int.not_lt] at *; omega))))
      have e1 : w64 (i + 1) = i + 1 := w64_id (by omega) (by omega)
      refine .inl ⟨(i + 1, l ++ [w8 v], c0, c1, c2, mm), ?_, ⟨by simp; omega, by simp; omega, by simp; omega, rfl⟩, by simp; omega⟩
      simp only [F47_b0, branch_ite, if_pos g]
      refine (congrArg (fun x => bindO x _) e).trans ?_
      have : fitN (l.length + [w8 v].length) 1 = true := by unfold fitN; exact decide_eq_true (by simp; omega)
      simp only [bindO_s, this, guard_t, e1]
    · exact .inr ⟨(l, c0, c1, c2), by simp only [F47_b0, branch_ite, if_neg g], by simp; omega⟩) (k + 40) (0, [], 0, false, 0, m) ⟨by simp, by simp, by simp, rfl⟩ (by show 3 < _; omega)
  unfold F47
  rw [h1]
  refine T.binds (T.bind (F60_t k _ (by rw [toB_length]; exact h2)) fun r hr => T.ret hr)

theorem shl_byte (y : Int) (h0 : 0 ≤ y) (h1 : y ≤ 7) : 0 ≤ shlI .i64 1 y ∧ shlI .i64 1 y ≤ 255 := by
  have : y = 0 ∨ y = 1 ∨ y = 2 ∨ y = 3 ∨ y = 4 ∨ y = 5 ∨ y = 6 ∨ y = 7 := by omega
  rcases this with rfl | rfl | rfl | rfl | rfl | rfl | rfl | rfl <;> decide

theorem F48_t (K : Nat) (w : WT) (h : WInv w) (c : Int) (cb : Bool) (imm : Int) (hc : 0 ≤ c ∧ c ≤ 255) : T (F48 K (c, cb, imm, w)) WInv := by
  have hf : 0 ≤ w.2.1 ∧ w.2.1 ≤ 255 := ⟨h.f.1, h.f.2.1⟩
  unfold F48
  dsimp only
  have hz : 0 ≤ Int.tmod c 8 ∧ Int.tmod c 8 ≤ 7 := by (first | omega | ((simp (disch := omega) only [w64_id, w64u_id, Int.tmod_eq_emod_of_nonneg, Int.tdiv_eq_ediv_of_nonneg]); omega) | (simp (disch := omega) only [w64_id, w64u_id, Int.tmod_eq_emod_of_nonneg, Int.tdiv_eq_ediv_of_nonneg]) | (simp only [tm2, tm4, tm8, tm16, tm32, tm40, tm256, tm4096, tm65536, td2, td8, td16, td32, td64, td128, td256, w64_eq, decide_eq_true_eq, decide_eq_false_iff_not, not_and, Int.not_le, Int.not_lt] at *; omega))
  have hy : 0 ≤ w64u (Int.tmod (w64 (Int.tdiv c 8)) 8) ∧ w64u (Int.tmod (w64 (Int.tdiv c 8)) 8) ≤ 7 := by (first | omega | ((simp (disch := omega) only [w64_id, w64u_id, Int.tmod_eq_emod_of_nonneg, Int.tdiv_eq_ediv_of_nonneg]); omega) | (simp (disch := omega) only [w64_id, w64u_id, Int.tmod_eq_emod_of_nonneg, Int.tdiv_eq_ediv_of_nonneg]) | (simp only [tm2, tm4, tm8, tm16, tm32, tm40, tm256, tm4096, tm65536, td2, td8, td16, td32, td64, td128, td256, w64_eq, decide_eq_true_eq, decide_eq_false_iff_not, not_and, Int.not_le, Int.not_lt] at *; omega))
  generalize w64u (Int.tmod (w64 (Int.tdiv c 8)) 8) = yu at hy ⊢
  have hs := shl_byte yu hy.1 hy.2
  refine T.bind (F51_t K w h _ hz) fun r hr => ?_
  refine T.guard (decide_eq_true hy.1) ?_
  refine T.br (fun _ => ?_) fun _ => T.br (fun _ => ?_) fun _ => T.br (fun _ => ?_) fun _ => ?_
  · refine T.bind (F61_t K _ _ _ hr.1 hf) fun r1 hr1 => T.bind (F50_t K w h _ _ hr1.1) fun r2 hr2 => T.ret (hr2.set_f hr1.2)
  · rw [F63_eq K _ hf.1 hf.2, bindO_s]
    exact F62_r fun g hg => T.ret (h.set_f hg)
  · exact T.bind (F50_t K w h _ _ (byte_bits .andNot (.inr (.inr (.inr rfl))) _ _ hr.1.1 hr.1.2 hs.1 hs.2)) fun r2 hr2 => T.ret hr2
  · exact T.bind (F50_t K w h _ _ (byte_bits .or (.inr (.inl rfl)) _ _ hr.1.1 hr.1.2 hs.1 hs.2)) fun r2 hr2 => T.ret hr2

theorem F49_t (K : Nat) (w : WT) (h : WInv w) (c : Int) (cb : Bool) (imm : Int) (hc : 0 ≤ c ∧ c ≤ 63) (hi : 0 ≤ imm ∧ imm ≤ 65535) (h6 : c % 8 = 6 → imm ≤ 255) : T (F49 K (c, cb, imm, w)) fun r => WInv r.2 := by
  have hsp := h.sp
  have hpc := h.pc
  unfold F49
  dsimp only
  have hz : 0 ≤ Int.tmod c 8 ∧ Int.tmod c 8 ≤ 7 ∧ (Int.tmod c 8 = 6 → imm ≤ 255) := ⟨by (first | omega | ((simp (disch := omega) only [w64_id, w64u_id, Int.tmod_eq_emod_of_nonneg, Int.tdiv_eq_ediv_of_nonneg]); omega) | (simp (disch := omega) only [w64_id, w64u_id, Int.tmod_eq_emod_of_nonneg, Int.tdiv_eq_ediv_of_nonneg]) | (simp only [tm2, tm4, tm8, tm16, tm32, tm40, tm256, tm4096, tm65536, td2, td8, td16, td32, td64, td128, td256, w64_eq, decide_eq_true_eq, decide_eq_false_iff_not, not_and, Int.not_le, Int.not_lt] at *; omega)), by (first | omega | ((simp (disch := omega) only [w64_id, w64u_id, Int.tmod_eq_emod_of_nonneg, Int.tdiv_eq_ediv_of_nonneg]); omega) | (simp (disch := omega) only [w64_id, w64u_id, Int.tmod_eq_emod_of_nonneg, Int.tdiv_eq_ediv_of_nonneg]) | (simp only [tm2, tm4, tm8, tm16, tm32, tm40, tm256, tm4096, tm65536, td2, td8, td16, td32, td64, td128, td256, w64_eq, decide_eq_true_eq, decide_eq_false_iff_not, not_and, Int.not_le, Int.not_lt] at *; omega)), fun e => h6 (by rw [← Int.tmod_eq_emod_of_nonneg hc.1]; exact e)⟩
  have hy : 0 ≤ w64 (Int.tdiv c 8) ∧ w64 (Int.tdiv c 8) ≤ 7 := by (first | omega | ((simp (disch := omega) only [w64_id, w64u_id, Int.tmod_eq_emod_of_nonneg, Int.tdiv_eq_ediv_of_nonneg]); omega) | (simp (disch := omega) only [w64_id, w64u_id, Int.tmod_eq_emod_of_nonneg, Int.tdiv_eq_ediv_of_nonneg]) | (simp only [tm2, tm4, tm8, tm16, tm32, tm40, tm256, tm4096, tm65536, td2, td8, td16, td32, td64, td128, td256, w64_eq, decide_eq_true_eq, decide_eq_false_iff_not, not_and, Int.not_le, Int.not_lt] at *; omega))
  generalize w64 (Int.tdiv c 8) = y at hy ⊢
  generalize Int.tmod c 8 = z at hz ⊢
  have hp : 0 ≤ w64 (Int.tdiv y 2) ∧ w64 (Int.tdiv y 2) ≤ 3 := by (first | omega | ((simp (disch := omega) only [w64_id, w64u_id, Int.tmod_eq_emod_of_nonneg, Int.tdiv_eq_ediv_of_nonneg]); omega) | (simp (disch := omega) only [w64_id, w64u_id, Int.tmod_eq_emod_of_nonneg, Int.tdiv_eq_ediv_of_nonneg]) | (simp only [tm2, tm4, tm8, tm16, tm32, tm40, tm256, tm4096, tm65536, td2, td8, td16, td32, td64, td128, td256, w64_eq, decide_eq_true_eq, decide_eq_false_iff_not, not_and, Int.not_le, Int.not_lt] at *; omega))
  generalize w64 (Int.tdiv y 2) = p at hp ⊢
  refine T.bind (S := fun v => ∃ b, v = (y, z, p, b, c, cb, imm, w)) (by (repeat' (with_reducible first | apply T.bindbind | (apply F16_t <;> intro _) | (apply F15_t <;> intro _) | (apply T.bindbr <;> intro _) | apply T.binds | (apply T.br <;> intro _) | apply T.csl | apply T.csr | (apply F62_r; intro _ _))) <;> exact T.ret ⟨_, rfl⟩) ?_
  rintro _ ⟨b0, rfl⟩
  refine T.br (fun _ => ?_) fun _ => ?_
  · refine T.bind (F64_t K w h _ _ hi.1 (by (first | (dsimp only; (first | omega | ((simp (disch := omega) only [w64_id, w64u_id, Int.tmod_eq_emod_of_nonneg, Int.tdiv_eq_ediv_of_nonneg]); omega) | (simp (disch := omega) only [w64_id, w64u_id, Int.tmod_eq_emod_of_nonneg, Int.tdiv_eq_ediv_of_nonneg]) | (simp only [tm2, tm4, tm8, tm16, tm32, tm40, tm256, tm4096, tm65536, td2, td8, td16, td32, td64, td128, td256, w64_eq, decide_eq_true_eq, decide_eq_false_iff_not, not_and, Int.not_le, Int.not_lt] at *; omega))) | (first | omega | ((simp (disch := omega) only [w64_id, w64u_id, Int.tmod_eq_emod_of_nonneg, Int.tdiv_eq_ediv_of_nonneg]); omega) | (simp (disch := omega) only [w64_id, w64u_id, Int.tmod_eq_emod_of_nonneg, Int.tdiv_eq_ediv_of_nonneg]) | (simp only [tm2, tm4, tm8, tm16, tm32, tm40, tm256, tm4096, tm65536, td2, td8, td16, td32, td64, td128, td256, w64_eq, decide_eq_true_eq, decide_eq_false_iff_not, not_and, Int.not_le, Int.not_lt] at *; omega))))) fun r hr => ?_
    have hsp2 := hr.sp
    exact T.bind (F64_t K r hr _ _ (by (first | (dsimp only; (first | omega | ((simp (disch := omega) only [w64_id, w64u_id, Int.tmod_eq_emod_of_nonneg, Int.tdiv_eq_ediv_of_nonneg]); omega) | (simp (disch := omega) only [w64_id, w64u_id, Int.tmod_eq_emod_of_nonneg, Int.tdiv_eq_ediv_of_nonneg]) | (simp only [tm2, tm4, tm8, tm16, tm32, tm40, tm256, tm4096, tm65536, td2, td8, td16, td32, td64, td128, td256, w64_eq, decide_eq_true_eq, decide_eq_false_iff_not, not_and, Int.not_le, Int.not_lt] at *; omega))) | (first | omega | ((simp (disch := omega) only [w64_id, w64u_id, Int.tmod_eq_emod_of_nonneg, Int.tdiv_eq_ediv_of_nonneg]); omega) | (simp (disch := omega) only [w64_id, w64u_id, Int.tmod_eq_emod_of_nonneg, Int.tdiv_eq_ediv_of_nonneg]) | (simp only [tm2, tm4, tm8, tm16, tm32, tm40, tm256, tm4096, tm65536, td2, td8, td16, td32, td64, td128, td256, w64_eq, decide_eq_true_eq, decide_eq_false_iff_not, not_and, Int.not_le, Int.not_lt] at *; omega)))) (by (first | (dsimp only; (first | omega | ((simp (disch := omega) only [w64_id, w64u_id, Int.tmod_eq_emod_of_nonneg, Int.tdiv_eq_ediv_of_nonneg]); omega) | (simp (disch := omega) only [w64_id, w64u_id, Int.tmod_eq_emod_of_nonneg, Int.tdiv_eq_ediv_of_nonneg]) | (simp only [tm2, tm4, tm8, tm16, tm32, tm40, tm256, tm4096, tm65536, td2, td8, td16, td32, td64, td128, td256, w64_eq, decide_eq_true_eq, decide_eq_false_iff_not, not_and, Int.not_le, Int.not_lt] at *; omega))) | (first | omega | ((simp (disch := omega) only [w64_id, w64u_id, Int.tmod_eq_emod_of_nonneg, Int.tdiv_eq_ediv_of_nonneg]); omega) | (simp (disch := omega) only [w64_id, w64u_id, Int.tmod_eq_emod_of_nonneg, Int.tdiv_eq_ediv_of_nonneg]) | (simp only [tm2, tm4, tm8, tm16, tm32, tm40, tm256, tm4096, tm65536, td2, td8, td16, td32, td64, td128, td256, w64_eq, decide_eq_true_eq, decide_eq_false_iff_not, not_and, Int.not_le, Int.not_lt] at *; omega))))) fun r2 hr2 => T.ret hr2
  refine T.bind (S := fun v => ∃ b, v = (y, z, p, b, c, cb, imm, w)) ?_ ?_
  · refine T.bind (S := fun v => ∃ b, v = (y, z, p, b, c, cb, imm, w)) (by (repeat' (with_reducible first | apply T.bindbind | (apply F16_t <;> intro _) | (apply F15_t <;> intro _) | (apply T.bindbr <;> intro _) | apply T.binds | (apply T.br <;> intro _) | apply T.csl | apply T.csr | (apply F62_r; intro _ _))) <;> exact T.ret ⟨_, rfl⟩) ?_
    rintro _ ⟨b1, rfl⟩
    refine T.br (fun _ => T.ret ⟨_, rfl⟩) fun _ => T.br (fun _ => T.br (fun _ => T.bind (F65_t K w _) fun r hr => T.ret ⟨_, rfl⟩) fun _ => T.ret ⟨_, rfl⟩) fun _ => T.ret ⟨_, rfl⟩
  rintro _ ⟨b2, rfl⟩
  refine T.br (fun _ => ?_) fun _ => ?_
  · refine T.bind (F66_t K _) fun r hr => T.ret (h.set_pc ?_)
    dsimp only
    (first | omega | ((simp (disch := omega) only [w64_id, w64u_id, Int.tmod_eq_emod_of_nonneg, Int.tdiv_eq_ediv_of_nonneg]); omega) | (simp (disch := omega) only [w64_id, w64u_id, Int.tmod_eq_emod_of_nonneg, Int.tdiv_eq_ediv_of_nonneg]) | (simp only [tm2, tm4, tm8, tm16, tm32, tm40, tm256, tm4096, tm65536, td2, td8, td16, td32, td64, td128, td256, w64_eq, decide_eq_true_eq, decide_eq_false_iff_not, not_and, Int.not_le, Int.not_lt] at *; omega))
  refine T.bind (S := fun v => ∃ b, v = (y, z, p, b, c, cb, imm, w)) (by (repeat' (with_reducible first | apply T.bindbind | (apply F16_t <;> intro _) | (apply F15_t <;> intro _) | (apply T.bindbr <;> intro _) | apply T.binds | (apply T.br <;> intro _) | apply T.csl | apply T.csr | (apply F62_r; intro _ _))) <;> exact T.ret ⟨_, rfl⟩) ?_
  rintro _ ⟨b3, rfl⟩
  refine T.br (fun _ => T.bind (F67_t K w h _ _ _ hi) fun r hr => T.ret hr) fun _ => ?_
  refine T.br (fun _ => ?_) fun _ => ?_
  · rw [F69_eq K w h, bindO_s]
    refine T.bind (F70_t K w h _ _ hp.1) fun r hr => T.bind (F68_t K _ _ _) fun r2 hr2 => T.bind (F67_t K w h _ _ _ hr2.1) fun r3 hr3 => T.ret (hr3.set_f hr2.2)
  refine T.br (fun _ => ?_) fun _ => ?_
  · refine T.bind (F70_t K w h _ _ (by dsimp only; unfold mnI; split <;> omega)) fun r hr => ?_
    refine T.bind (S := fun v => ∃ w2 : WT, v = (p, r.1, w2) ∧ WInv w2) ?_ ?_
    · refine T.br (fun _ => T.bind (F64_t K w h _ _ hr.1.1 h.a) fun r2 hr2 => T.ret ⟨_, rfl, hr2⟩) fun _ => T.bind (F59_t K w h _ hr.1.1) fun r2 hr2 => T.ret ⟨_, rfl, h.set_a hr2⟩
    · rintro _ ⟨w2, rfl, hw2⟩
      refine T.br (fun g => ?_) fun _ => T.ret hw2
      have g' : 1 < p := of_decide_eq_true g
      have e : w64 (p - 2) = p - 2 := w64_id (by omega) (by omega)
      dsimp only
      rw [e]
      refine T.guard (decide_eq_true ⟨by omega, by omega⟩) (T.nthN (by simp; omega) fun v hv _ => ?_)
      have hv' : v = 1 ∨ v = 65535 := by simpa using hv
      have hr1 := hr.1
      exact T.bind (F67_t K w2 hw2 _ _ _ (by rcases hv' with rfl | rfl <;> (first | omega | ((simp (disch := omega) only [w64_id, w64u_id, Int.tmod_eq_emod_of_nonneg, Int.tdiv_eq_ediv_of_nonneg]); omega) | (simp (disch := omega) only [w64_id, w64u_id, Int.tmod_eq_emod_of_nonneg, Int.tdiv_eq_ediv_of_nonneg]) | (simp only [tm2, tm4, tm8, tm16, tm32, tm40, tm256, tm4096, tm65536, td2, td8, td16, td32, td64, td128, td256, w64_eq, decide_eq_true_eq, decide_eq_false_iff_not, not_and, Int.not_le, Int.not_lt] at *; omega)))) fun r3 hr3 => T.ret hr3
  refine T.br (fun _ => ?_) fun _ => ?_
  · refine T.bind (F70_t K w h _ _ hp.1) fun r hr => T.nth (by (first | (dsimp only; (first | omega | ((simp (disch := omega) only [w64_id, w64u_id, Int.tmod_eq_emod_of_nonneg, Int.tdiv_eq_ediv_of_nonneg]); omega) | (simp (disch := omega) only [w64_id, w64u_id, Int.tmod_eq_emod_of_nonneg, Int.tdiv_eq_ediv_of_nonneg]) | (simp only [tm2, tm4, tm8, tm16, tm32, tm40, tm256, tm4096, tm65536, td2, td8, td16, td32, td64, td128, td256, w64_eq, decide_eq_true_eq, decide_eq_false_iff_not, not_and, Int.not_le, Int.not_lt] at *; omega))) | (first | omega | ((simp (disch := omega) only [w64_id, w64u_id, Int.tmod_eq_emod_of_nonneg, Int.tdiv_eq_ediv_of_nonneg]); omega) | (simp (disch := omega) only [w64_id, w64u_id, Int.tmod_eq_emod_of_nonneg, Int.tdiv_eq_ediv_of_nonneg]) | (simp only [tm2, tm4, tm8, tm16, tm32, tm40, tm256, tm4096, tm65536, td2, td8, td16, td32, td64, td128, td256, w64_eq, decide_eq_true_eq, decide_eq_false_iff_not, not_and, Int.not_le, Int.not_lt] at *; omega)))) (by show Int.tmod y 2 < 2; (first | omega | ((simp (disch := omega) only [w64_id, w64u_id, Int.tmod_eq_emod_of_nonneg, Int.tdiv_eq_ediv_of_nonneg]); omega) | (simp (disch := omega) only [w64_id, w64u_id, Int.tmod_eq_emod_of_nonneg, Int.tdiv_eq_ediv_of_nonneg]) | (simp only [tm2, tm4, tm8, tm16, tm32, tm40, tm256, tm4096, tm65536, td2, td8, td16, td32, td64, td128, td256, w64_eq, decide_eq_true_eq, decide_eq_false_iff_not, not_and, Int.not_le, Int.not_lt] at *; omega))) fun v hv _ => ?_
    have hv' : v = 1 ∨ v = 65535 := by simpa using hv
    have hr1 := hr.1
    exact T.bind (F67_t K w h _ _ _ (by rcases hv' with rfl | rfl <;> (first | omega | ((simp (disch := omega) only [w64_id, w64u_id, Int.tmod_eq_emod_of_nonneg, Int.tdiv_eq_ediv_of_nonneg]); omega) | (simp (disch := omega) only [w64_id, w64u_id, Int.tmod_eq_emod_of_nonneg, Int.tdiv_eq_ediv_of_nonneg]) | (simp only [tm2, tm4, tm8, tm16, tm32, tm40, tm256, tm4096, tm65536, td2, td8, td16, td32, td64, td128, td256, w64_eq, decide_eq_true_eq, decide_eq_false_iff_not, not_and, Int.not_le, Int.not_lt] at *; omega)))) fun r3 hr3 => T.ret hr3
  refine T.bind (S := fun v => ∃ b, v = (y, z, b, c, cb, imm, w)) (by (repeat' (with_reducible first | apply T.bindbind | (apply F16_t <;> intro _) | (apply F15_t <;> intro _) | (apply T.bindbr <;> intro _) | apply T.binds | (apply T.br <;> intro _) | apply T.csl | apply T.csr | (apply F62_r; intro _ _))) <;> exact T.ret ⟨_, rfl⟩) ?_
  rintro _ ⟨b4, rfl⟩
  refine T.br (fun _ => ?_) fun _ => ?_
  · refine T.bind (F51_t K w h _ hy) fun r hr => T.bind (F71_t K _ _ _) fun r2 hr2 => T.bind (F50_t K w h _ _ hr2.1) fun r3 hr3 => T.ret (hr3.set_f hr2.2)
  refine T.br (fun g => ?_) fun _ => ?_
  · exact T.bind (F50_t K w h _ _ ⟨hi.1, hz.2.2 (of_decide_eq_true g)⟩) fun r hr => T.ret hr
  refine T.br (fun g => ?_) fun _ => T.ret h
  exact T.bind (F72_t K w h _) fun r hr => T.ret hr

end Go.U.Try
