/- A part of the proof. No condition. -/
import Derived.Test.YtncclmpabjglmaaGreatDoorP1
import Derived.Test.YtncclmpabjglmaaGreatDoorP0
set_option linter.unusedVariables false
set_option linter.unusedSimpArgs false
set_option linter.unusedSectionVars false
namespace Go.U.Tryz
open Go Go.U
set_option maxRecDepth 20000
theorem F54_in (K : Nat) (v lo hi : Int) : F54 K (v, lo, hi) = some (inR v lo hi) := by
  simp only [F54, branch_ite, inR]
  split <;> simp_all <;> omega
theorem F87_in (K : Nat) (v lo hi : Int) : F87 K (v, lo, hi) = some (inR v lo hi) := by
  simp only [F87, branch_ite, inR]
  split <;> simp_all <;> omega
theorem bind_nth {α β ρ : Type} {xs : List α} {n : Int} {f : α → Option β} {k : β → Option ρ} : bindO (nth xs n f) k = nth xs n fun x => bindO (f x) k := by
  simp only [nth, guard]
  cases decide (0 ≤ n) with
  | false => rfl
  | true =>
    simp only [nthN]
    cases xs[n.toNat]? <;> rfl
theorem bind_bind {α β ρ : Type} {x : Option α} {f : α → Option β} {k : β → Option ρ} : bindO (bindO x f) k = bindO x fun y => bindO (f y) k := by cases x <;> rfl
theorem bind_guard {α ρ : Type} {c : Bool} {a : Option α} {k : α → Option ρ} : bindO (guard c a) k = guard c (bindO a k) := by cases c <;> rfl
def rpl (kind rb : Int) (on : Bool) (mode addr : Int) : Int := if on = true ∧ 40960 ≤ addr ∧ addr ≤ 41023 then (if kind = 1 ∧ mode = 0 then 0 else rb) * 64 + addr - 40960 else -1
theorem F178_eq (K : Nat) (rom : List UInt8) (kind bank : Int) (ram : List UInt8) (rb : Int) (on : Bool) (mode addr : Int) (hrb : 0 ≤ rb ∧ rb ≤ 3) : F178 K (rom, kind, bank, ram, rb, on, mode, addr) = some (rpl kind rb on mode addr) := by
  unfold F178 rpl
  simp only [F54_in, bindO_s]
  cases on with
  | false => rfl
  | true =>
    simp only [Bool.not_true, branch_f, bindO_s, inR]
    by_cases h : 40960 ≤ addr ∧ addr ≤ 41023
    · rw [decide_eq_true h, if_pos ⟨trivial, h⟩]
      simp only [Bool.not_true, branch_f, bindO_s, csO_r, branch_ite]
      by_cases k1 : kind = 1
      · by_cases m0 : mode = 0
        · simp only [k1, m0, if_true, bindO_s, decide_true, branch_t, and_self]
          congr 1; (simp (disch := omega) only [w64_id, w64u_id, tmE, tdE])
        · simp only [k1, m0, if_true, bindO_s, decide_false, branch_f, and_false, if_false]
          congr 1; (simp (disch := omega) only [w64_id, w64u_id, tmE, tdE])
      · simp only [k1, if_false, bindO_s, branch_f, false_and]
        congr 1; (simp (disch := omega) only [w64_id, w64u_id, tmE, tdE])
    · rw [decide_eq_false h, if_neg (fun x => h x.2)]
      rfl
theorem F246_eq (K : Nat) (rom : List UInt8) (kind bank : Int) (ram : List UInt8) (rb : Int) (on : Bool) (mode : Int) : F246 K (rom, kind, bank, ram, rb, on, mode) = some (if kind = 1 ∧ mode = 0 then 0 else rb) := by
  unfold F246
  simp only [branch_ite]
  by_cases k1 : kind = 1
  · by_cases m0 : mode = 0 <;> simp [k1, m0, bindO_s, branch_t, branch_f]
  · simp [k1, bindO_s, branch_f]
theorem F119_eq (K : Nat) (rom : List UInt8) (kind bank : Int) (ram : List UInt8) (rb : Int) (on : Bool) (mode : Int) (h : CInv rom kind bank ram rb on mode) (addr : Int) (ha : 0 ≤ addr ∧ addr ≤ 65535) :
    F119 K (rom, kind, bank, ram, rb, on, mode, addr) = F194 K (rom, kind, bank, ram, rb, on, mode, addr) := by
  have h1 := h.hrom
  have hl : rom.length ≤ maxLen := by unfold maxLen; omega
  have hd : w64 (Int.tdiv (rom.length : Int) 256) = ((rom.length / 256 : Nat) : Int) := by
    rw [tdE (by omega)]; exact (w64_id (by omega) (by omega)).trans (by omega)
  have hb : Tryz.banks rom = ((rom.length / 256 : Nat) : Int) := h.banks
  unfold F119 F194
  simp only [F178_eq K rom kind bank ram rb on mode addr h.hrb, F87_in, bindO_s, F130, hd, F127_eq K rom hl, hb, inR, bind_guard, F246_eq, branch_ite]
  by_cases g1 : addr < 256
  · rw [if_pos g1, if_pos (show 0 ≤ addr ∧ addr ≤ 255 by omega)]
  · rw [if_neg g1, if_neg (show ¬ (0 ≤ addr ∧ addr ≤ 255) by omega)]
    by_cases g2 : addr < 512
    · rw [if_pos g2, if_pos (show 256 ≤ addr ∧ addr ≤ 511 by omega)]
    · rw [if_neg g2, if_neg (show ¬ (256 ≤ addr ∧ addr ≤ 511) by omega)]
      cases on with
      | false => rfl
      | true =>
        simp only [branch_t, bindO_s, rpl, true_and, branch_ite, F246_eq]
        by_cases g3 : 40960 ≤ addr ∧ addr ≤ 41023
        · have hrb := h.hrb
          simp only [if_pos g3]
          rw [if_pos (by split <;> omega)]
          have e : (if kind = 1 ∧ mode = 0 then (0 : Int) else rb) * 64 + addr - 40960 = w64 (w64 (w64 ((if kind = 1 ∧ mode = 0 then (0 : Int) else rb) * 64) + addr) - 40960) := by split <;> (simp (disch := omega) only [w64_id, w64u_id, tmE, tdE])
          rw [e]
        · simp only [if_neg g3]
          rfl
theorem F269_eq (K : Nat) (x : List UInt8 × Int × Int) : F269 K x = F255 K x := rfl
theorem F270_eq (K : Nat) (rom : List UInt8) (kind bank : Int) (ram : List UInt8) (rb : Int) (on : Bool) (mode : Int) (h : CInv rom kind bank ram rb on mode) (addr v : Int) (ha : 0 ≤ addr ∧ addr ≤ 65535) (hv : 0 ≤ v ∧ v ≤ 255) :
    F270 K (rom, kind, bank, ram, rb, on, mode, addr, v) = F256 K (rom, kind, bank, ram, rb, on, mode, addr, v) := by
  have hrb := h.hrb
  unfold F270 F256
  simp only [F178_eq K rom kind bank ram rb on mode addr h.hrb, F87_in, bindO_s, inR, F246_eq, branch_ite, and15, F269_eq]
  have e15 : v % 16 = Int.tmod v 16 := (tmE hv.1).symm
  rw [e15]
  by_cases k0 : kind = 0
  · simp only [if_pos k0]
  · simp only [if_neg k0]
    by_cases g1 : addr < 128
    · simp only [if_pos g1]
    · simp only [if_neg g1]
      by_cases g2 : addr < 256
      · simp only [if_pos g2, bindO_s]
      · simp only [if_neg g2, bindO_s, branch_f]
        by_cases g3 : addr < 384
        · simp only [if_pos g3]
        · simp only [if_neg g3]
          by_cases g4 : addr < 512
          · simp only [if_pos g4, bindO_s]
            by_cases k1 : kind = 1
            · simp only [k1, decide_true, branch_t, if_true]
            · have hr : ¬ (0 : Int) ≤ rpl kind rb on mode addr := by unfold rpl; rw [if_neg (by omega)]; omega
              simp only [k1, decide_false, branch_f, if_false, if_neg hr]
          · simp only [if_neg g4, bindO_s, branch_f]
            cases on with
            | false => rfl
            | true =>
              simp only [branch_t, bindO_s, rpl, true_and, branch_ite, F246_eq]
              by_cases g5 : 40960 ≤ addr ∧ addr ≤ 41023
              · simp only [if_pos g5]
                rw [if_pos (by split <;> omega)]
                have e : (if kind = 1 ∧ mode = 0 then (0 : Int) else rb) * 64 + addr - 40960 = w64 (w64 (w64 ((if kind = 1 ∧ mode = 0 then (0 : Int) else rb) * 64) + addr) - 40960) := by split <;> (simp (disch := omega) only [w64_id, w64u_id, tmE, tdE])
                rw [e]
              · simp only [if_neg g5]
                rfl
end Go.U.Tryz
namespace Go.U.Tryz
open Go Go.U
set_option maxRecDepth 20000
def A (c : Int) (cb : Bool) (imm : Int) (w : WT) : Int × Bool × Int × Bool × MT := (c, cb, imm, w.2.2.2.2.2.2.2.2.2.2.2.2.2.2.2.2.2.2.2.2.2.2.2, w.1, w.2.1, w.2.2.1, w.2.2.2.1, w.2.2.2.2.1, w.2.2.2.2.2.1, w.2.2.2.2.2.2.1, w.2.2.2.2.2.2.2.1, w.2.2.2.2.2.2.2.2.1, w.2.2.2.2.2.2.2.2.2.1, w.2.2.2.2.2.2.2.2.2.2.1, w.2.2.2.2.2.2.2.2.2.2.2.1, w.2.2.2.2.2.2.2.2.2.2.2.2.1, w.2.2.2.2.2.2.2.2.2.2.2.2.2.1, w.2.2.2.2.2.2.2.2.2.2.2.2.2.2.1, w.2.2.2.2.2.2.2.2.2.2.2.2.2.2.2.1, w.2.2.2.2.2.2.2.2.2.2.2.2.2.2.2.2.1, w.2.2.2.2.2.2.2.2.2.2.2.2.2.2.2.2.2.1, w.2.2.2.2.2.2.2.2.2.2.2.2.2.2.2.2.2.2.1, w.2.2.2.2.2.2.2.2.2.2.2.2.2.2.2.2.2.2.2.1, w.2.2.2.2.2.2.2.2.2.2.2.2.2.2.2.2.2.2.2.2.1, w.2.2.2.2.2.2.2.2.2.2.2.2.2.2.2.2.2.2.2.2.2.1, w.2.2.2.2.2.2.2.2.2.2.2.2.2.2.2.2.2.2.2.2.2.2.1)
theorem F64_eq (K : Nat) (m : MT) (h : WInv m.w) (a : Int) : F64 K (a, m) = bindO (F138 K (m.1, m.2.1, m.2.2.1, m.2.2.2.1, m.2.2.2.2.1, m.2.2.2.2.2.1, m.2.2.2.2.2.2.1, m.2.2.2.2.2.2.2.1, m.2.2.2.2.2.2.2.2.1, m.2.2.2.2.2.2.2.2.2.1, m.2.2.2.2.2.2.2.2.2.2.1, m.2.2.2.2.2.2.2.2.2.2.2.1, m.2.2.2.2.2.2.2.2.2.2.2.2.1, m.2.2.2.2.2.2.2.2.2.2.2.2.2.1, m.2.2.2.2.2.2.2.2.2.2.2.2.2.2.1, m.2.2.2.2.2.2.2.2.2.2.2.2.2.2.2.1, m.2.2.2.2.2.2.2.2.2.2.2.2.2.2.2.2.1, m.2.2.2.2.2.2.2.2.2.2.2.2.2.2.2.2.2.1, m.2.2.2.2.2.2.2.2.2.2.2.2.2.2.2.2.2.2.1, m.2.2.2.2.2.2.2.2.2.2.2.2.2.2.2.2.2.2.2.1, m.2.2.2.2.2.2.2.2.2.2.2.2.2.2.2.2.2.2.2.2.1, m.2.2.2.2.2.2.2.2.2.2.2.2.2.2.2.2.2.2.2.2.2.1, m.2.2.2.2.2.2.2.2.2.2.2.2.2.2.2.2.2.2.2.2.2.2, a % 65536)) fun r => some (r, m) := by
  have hc := h.cart
  unfold F64 F138
  simp only [and65535, F54_in, F87_in, bindO_s]
  cases g1 : inR (a % 65536) 49152 49407 with
  | true => simp only [branch_t, bind_nth, bindO_s]
  | false =>
    simp only [branch_f]
    cases g2 : inR (a % 65536) 65408 65534 with
    | true => simp only [branch_t, bind_nth, bindO_s]
    | false =>
      simp only [branch_f]
      have e := F119_eq K _ _ _ _ _ _ _ hc (a % 65536) (by omega)
      refine (congrArg (fun z => bindO z _) e).trans ?_
      rw [bind_bind]
      rfl
theorem F254_eq (K : Nat) (m : MT) (h : WInv m.w) (a v : Int) (hv : 0 ≤ v ∧ v ≤ 255) : F254 K (a, v, m) = bindO (F231 K (m.1, m.2.1, m.2.2.1, m.2.2.2.1, m.2.2.2.2.1, m.2.2.2.2.2.1, m.2.2.2.2.2.2.1, m.2.2.2.2.2.2.2.1, m.2.2.2.2.2.2.2.2.1, m.2.2.2.2.2.2.2.2.2.1, m.2.2.2.2.2.2.2.2.2.2.1, m.2.2.2.2.2.2.2.2.2.2.2.1, m.2.2.2.2.2.2.2.2.2.2.2.2.1, m.2.2.2.2.2.2.2.2.2.2.2.2.2.1, m.2.2.2.2.2.2.2.2.2.2.2.2.2.2.1, m.2.2.2.2.2.2.2.2.2.2.2.2.2.2.2.1, m.2.2.2.2.2.2.2.2.2.2.2.2.2.2.2.2.1, m.2.2.2.2.2.2.2.2.2.2.2.2.2.2.2.2.2.1, m.2.2.2.2.2.2.2.2.2.2.2.2.2.2.2.2.2.2.1, m.2.2.2.2.2.2.2.2.2.2.2.2.2.2.2.2.2.2.2.1, m.2.2.2.2.2.2.2.2.2.2.2.2.2.2.2.2.2.2.2.2.1, m.2.2.2.2.2.2.2.2.2.2.2.2.2.2.2.2.2.2.2.2.2.1, m.2.2.2.2.2.2.2.2.2.2.2.2.2.2.2.2.2.2.2.2.2.2, a % 65536, v)) fun r => some (r.2.2.2.2.2.2.2.2.2.2.2.2.2.2.2.2.2.2.2.2.2.2.2, r.1, r.2.1, r.2.2.1, r.2.2.2.1, r.2.2.2.2.1, r.2.2.2.2.2.1, r.2.2.2.2.2.2.1, r.2.2.2.2.2.2.2.1, r.2.2.2.2.2.2.2.2.1, r.2.2.2.2.2.2.2.2.2.1, r.2.2.2.2.2.2.2.2.2.2.1, r.2.2.2.2.2.2.2.2.2.2.2.1, r.2.2.2.2.2.2.2.2.2.2.2.2.1, r.2.2.2.2.2.2.2.2.2.2.2.2.2.1, r.2.2.2.2.2.2.2.2.2.2.2.2.2.2.1, r.2.2.2.2.2.2.2.2.2.2.2.2.2.2.2.1, r.2.2.2.2.2.2.2.2.2.2.2.2.2.2.2.2.1, r.2.2.2.2.2.2.2.2.2.2.2.2.2.2.2.2.2.1, r.2.2.2.2.2.2.2.2.2.2.2.2.2.2.2.2.2.2.1, r.2.2.2.2.2.2.2.2.2.2.2.2.2.2.2.2.2.2.2.1, r.2.2.2.2.2.2.2.2.2.2.2.2.2.2.2.2.2.2.2.2.1, r.2.2.2.2.2.2.2.2.2.2.2.2.2.2.2.2.2.2.2.2.2.1, r.2.2.2.2.2.2.2.2.2.2.2.2.2.2.2.2.2.2.2.2.2.2.1) := by
  have hc := h.cart
  have hout : m.2.2.2.2.2.2.2.2.2.2.2.2.2.2.2.2.2.2.2.2.2.1.length ≤ 100 := h.out.2
  unfold F254 F231
  simp only [and65535, F54_in, F87_in, bindO_s, F269_eq]
  cases g1 : inR (a % 65536) 49152 49407 with
  | true => simp only [branch_t, bind_bind, bindO_s]
  | false =>
    simp only [branch_f]
    cases g2 : inR (a % 65536) 65408 65534 with
    | true => simp only [branch_t, bind_bind, bindO_s]
    | false =>
      simp only [branch_f, branch_ite]
      by_cases g3 : a % 65536 = 65281
      · simp only [if_pos g3]
        by_cases g4 : (m.2.2.2.2.2.2.2.2.2.2.2.2.2.2.2.2.2.2.2.2.2.1.length : Int) = 100
        · simp only [if_pos g4, bindO_s]
        · simp only [if_neg g4]
          have e1 : F111 K m.2.2.2.2.2.2.2.2.2.2.2.2.2.2.2.2.2.2.2.2.2.1 = some m.2.2.2.2.2.2.2.2.2.2.2.2.2.2.2.2.2.2.2.2.2.1 := by
            unfold F111 cloneF
            exact guard_dec (by omega)
          have f1 : fitN (m.2.2.2.2.2.2.2.2.2.2.2.2.2.2.2.2.2.2.2.2.2.1.length + [v].length) 8 = true := by unfold fitN; exact decide_eq_true (by simp; omega)
          have f2 : fitN (0 + m.2.2.2.2.2.2.2.2.2.2.2.2.2.2.2.2.2.2.2.2.2.1.length) 8 = true := by unfold fitN; exact decide_eq_true (by omega)
          have f3 : fitN (([] ++ m.2.2.2.2.2.2.2.2.2.2.2.2.2.2.2.2.2.2.2.2.2.1).length + [v].length) 8 = true := by rw [List.nil_append]; exact f1
          rw [e1, f2, f3]
          simp only [bindO_s, f1, guard_t, List.nil_append]
      · simp only [if_neg g3]
        have e := F270_eq K _ _ _ _ _ _ _ hc (a % 65536) v (by omega) hv
        refine (congrArg (fun z => bindO z _) e).trans ?_
        rw [bind_bind]
        rfl
theorem F230_eq (K : Nat) (c : Int) (cb : Bool) (imm : Int) (w : WT) (h : WInv w) (a v : Int) (ha : 0 ≤ a) (hv : 0 ≤ v ∧ v ≤ 255) :
    F230 K (a, v, A c cb imm w) = bindO (F163 K (a, v, w)) fun w' => some (A c cb imm w') := by
  have e := F254_eq K w.m (h.set_full false) a v hv
  have et : Int.tmod a 65536 = a % 65536 := tmE ha
  unfold F230 F163
  simp only [A, et]
  refine (congrArg (fun z => bindO z _) e).trans ?_
  simp only [bind_bind]
  congr 1
  funext r
  simp only [bindO_s, branch_bool]
  by_cases g1 : w.2.2.2.2.2.2.2.2.2.2.2.2.2.2.2.2.2.2.2.2.2.2.2 = true
  · rw [if_pos g1]
    simp only [bindO_s, g1]
    split <;> rfl
  · rw [if_neg g1]
    have g1' : w.2.2.2.2.2.2.2.2.2.2.2.2.2.2.2.2.2.2.2.2.2.2.2 = false := by simpa using g1
    simp only [bindO_s, g1']
    generalize r.2.2.2.2.2.2.2.2.2.2.2.2.2.2.2.2.2.2.2.2.2.2.2 = ok
    cases ok <;> rfl
theorem hl_or (h l : Int) (h0 : 0 ≤ h ∧ h ≤ 255) (l0 : 0 ≤ l ∧ l ≤ 255) : bits .or .i64 (shlI .i64 h 8) l = 256 * h + l := by
  rw [shl8 h h0.1 (by omega)]; exact or_join h l h0.1 (by omega) l0.1 l0.2
theorem F215_eq (K : Nat) (c : Int) (cb : Bool) (imm : Int) (w : WT) (h : WInv w) : F215 K (A c cb imm w) = some (256 * w.2.2.2.2.2.2.1 + w.2.2.2.2.2.2.2.1, A c cb imm w) := by
  unfold F215
  simp only [A, hl_or _ _ h.h h.l]
theorem F158_eq (K : Nat) (c : Int) (cb : Bool) (imm : Int) (w : WT) (h : WInv w) (k : Int) (hk : 0 ≤ k ∧ k ≤ 7) :
    F158 K (k, A c cb imm w) = bindO (F115 K (k, w)) fun r => some (r.1, A c cb imm w) := by
  have hc : k = 0 ∨ k = 1 ∨ k = 2 ∨ k = 3 ∨ k = 4 ∨ k = 5 ∨ k = 6 ∨ k = 7 := by omega
  rcases hc with rfl | rfl | rfl | rfl | rfl | rfl | rfl | rfl
  case inr.inr.inr.inr.inr.inr.inl =>
    have e1 := F215_eq K c cb imm w h
    have e2 := F167_eq K w h
    have hh := h.h
    have hl := h.l
    have e3 := F64_eq K w.m (h.set_full false) (256 * w.2.2.2.2.2.2.1 + w.2.2.2.2.2.2.2.1)
    have e4 : (256 * w.2.2.2.2.2.2.1 + w.2.2.2.2.2.2.2.1) % 65536 = 256 * w.2.2.2.2.2.2.1 + w.2.2.2.2.2.2.2.1 := by omega
    rw [e4] at e3
    show bindO (F229r6 K (6, A c cb imm w)) (fun v6 => bindO (F215 K (A c cb imm w)) fun v7 => bindO (F64 K (v7.1, w.m)) fun v8 => some (v8.1, A c cb imm w)) = bindO (bindO (F167 K w) fun v0 => bindO (F138 K (w.1, w.2.1, w.2.2.1, w.2.2.2.1, w.2.2.2.2.1, w.2.2.2.2.2.1, w.2.2.2.2.2.2.1, w.2.2.2.2.2.2.2.1, w.2.2.2.2.2.2.2.2.1, w.2.2.2.2.2.2.2.2.2.1, w.2.2.2.2.2.2.2.2.2.2.1, w.2.2.2.2.2.2.2.2.2.2.2.1, w.2.2.2.2.2.2.2.2.2.2.2.2.1, w.2.2.2.2.2.2.2.2.2.2.2.2.2.1, w.2.2.2.2.2.2.2.2.2.2.2.2.2.2.1, w.2.2.2.2.2.2.2.2.2.2.2.2.2.2.2.1, w.2.2.2.2.2.2.2.2.2.2.2.2.2.2.2.2.1, w.2.2.2.2.2.2.2.2.2.2.2.2.2.2.2.2.2.1, w.2.2.2.2.2.2.2.2.2.2.2.2.2.2.2.2.2.2.1, w.2.2.2.2.2.2.2.2.2.2.2.2.2.2.2.2.2.2.2.1, w.2.2.2.2.2.2.2.2.2.2.2.2.2.2.2.2.2.2.2.2.1, w.2.2.2.2.2.2.2.2.2.2.2.2.2.2.2.2.2.2.2.2.2.1, w.2.2.2.2.2.2.2.2.2.2.2.2.2.2.2.2.2.2.2.2.2.2.1, v0.1)) fun v1 => some (v1, w)) fun r => some (r.1, A c cb imm w)
    rw [e1, e2]
    show bindO (F64 K (256 * w.2.2.2.2.2.2.1 + w.2.2.2.2.2.2.2.1, w.m)) (fun v8 => some (v8.1, A c cb imm w)) = bindO (bindO (F138 K (w.1, w.2.1, w.2.2.1, w.2.2.2.1, w.2.2.2.2.1, w.2.2.2.2.2.1, w.2.2.2.2.2.2.1, w.2.2.2.2.2.2.2.1, w.2.2.2.2.2.2.2.2.1, w.2.2.2.2.2.2.2.2.2.1, w.2.2.2.2.2.2.2.2.2.2.1, w.2.2.2.2.2.2.2.2.2.2.2.1, w.2.2.2.2.2.2.2.2.2.2.2.2.1, w.2.2.2.2.2.2.2.2.2.2.2.2.2.1, w.2.2.2.2.2.2.2.2.2.2.2.2.2.2.1, w.2.2.2.2.2.2.2.2.2.2.2.2.2.2.2.1, w.2.2.2.2.2.2.2.2.2.2.2.2.2.2.2.2.1, w.2.2.2.2.2.2.2.2.2.2.2.2.2.2.2.2.2.1, w.2.2.2.2.2.2.2.2.2.2.2.2.2.2.2.2.2.2.1, w.2.2.2.2.2.2.2.2.2.2.2.2.2.2.2.2.2.2.2.1, w.2.2.2.2.2.2.2.2.2.2.2.2.2.2.2.2.2.2.2.2.1, w.2.2.2.2.2.2.2.2.2.2.2.2.2.2.2.2.2.2.2.2.2.1, w.2.2.2.2.2.2.2.2.2.2.2.2.2.2.2.2.2.2.2.2.2.2.1, 256 * w.2.2.2.2.2.2.1 + w.2.2.2.2.2.2.2.1)) fun v1 => some (v1, w)) fun r => some (r.1, A c cb imm w)
    rw [e3]
    simp only [bind_bind, bindO_s]
    rfl
  all_goals rfl
end Go.U.Tryz
namespace Go.U.Tryz
open Go Go.U
set_option maxRecDepth 20000
theorem F54_in' (K : Nat) (v lo hi : Int) : F54 K (v, lo, hi) = some (inR v lo hi) := by
  simp only [F54, branch_ite, inR]
  split <;> simp_all <;> omega
theorem F87_in' (K : Nat) (v lo hi : Int) : F87 K (v, lo, hi) = some (inR v lo hi) := by
  simp only [F87, branch_ite, inR]
  split <;> simp_all <;> omega
theorem F80_in (K : Nat) (v : Int) : F80 K v = some (inR v 0 255) := by unfold F80; rw [F54_in']; rfl
theorem F63_in (K : Nat) (v : Int) : F63 K v = some (inR v 0 65535) := by unfold F63; rw [F54_in']; rfl
theorem F84_in (K : Nat) (v : Int) : F84 K v = some (inR v 0 255) := by unfold F84; rw [F87_in']; rfl
theorem F85_in (K : Nat) (v : Int) : F85 K v = some (inR v 0 65535) := by unfold F85; rw [F87_in']; rfl
theorem inR_t {v lo hi : Int} (h : lo ≤ v ∧ v ≤ hi) : inR v lo hi = true := decide_eq_true h
theorem F210_eq (K : Nat) (z n h c : Bool) : F210 K (z, n, h, c) = some (flagsOf z n h c) := by
  cases z <;> cases n <;> cases h <;> cases c <;> rfl
theorem F211_16 (K : Nat) (f : Int) (hf : 0 ≤ f ∧ f ≤ 255) : F211 K (f, 16) = some (decide (f / 16 % 2 = 1)) := by
  unfold F211
  simp only [and16 f hf.1 hf.2]
  have : f / 16 % 2 = 0 ∨ f / 16 % 2 = 1 := by omega
  rcases this with e | e <;> rw [e] <;> rfl
theorem F211_128 (K : Nat) (f : Int) (hf : 0 ≤ f ∧ f ≤ 255) : F211 K (f, 128) = some (decide (128 ≤ f)) := by
  unfold F211
  simp only [and128 f hf.1 hf.2]
  by_cases g : 128 ≤ f
  · have : f / 128 = 1 := by omega
    rw [this, decide_eq_true g]; rfl
  · have : f / 128 = 0 := by omega
    rw [this, decide_eq_false g]; rfl
theorem F214_eq (K : Nat) (a b f : Int) (ha : 0 ≤ a ∧ a ≤ 65535) (hb : 0 ≤ b ∧ b ≤ 65535) (hf : 0 ≤ f ∧ f ≤ 255) : F214 K (a, b, f) = F166 K (a, b, f) := by
  unfold F214 F166
  simp only [F63_in, F80_in, F84_in, F85_in, bindO_s, inR_t ha, inR_t hb, inR_t hf, Bool.not_true, branch_f, csO_r, F211_128 K f hf, F210_eq, F161_eq, and4095, and65535]
  (simp (disch := omega) only [w64_id, w64u_id, tmE, tdE])
theorem F193_eq (K : Nat) (b : Int) : F193 K b = F144 K b := by
  unfold F193 F144
  simp only [F80_in, F87_in']
theorem F253_eq (K : Nat) (a b : Int) (ha : 0 ≤ a ∧ a ≤ 65535) (hb : 0 ≤ b ∧ b ≤ 255) : F253 K (a, b) = F172 K (a, b) := by
  obtain ⟨s, hs, hs0, hs1⟩ := F144_t K b
  unfold F253 F172
  simp only [F63_in, F80_in, F84_in, F85_in, bindO_s, inR_t ha, inR_t hb, Bool.not_true, branch_f, csO_r, F193_eq, hs, F210_eq, F161_eq, and15, and255, and65535]
  have e1 : w64 (a + s) % 65536 = Int.tmod (w64 (w64 (a + s) + 65536)) 65536 := by
    rw [w64_id (by omega) (by omega), w64_id (by omega) (by omega), tmE (by omega)]; omega
  have e2 : Int.tmod a 16 = a % 16 := tmE ha.1
  have e3 : Int.tmod b 16 = b % 16 := tmE hb.1
  have e4 : Int.tmod a 256 = a % 256 := tmE ha.1
  rw [e1, e2, e3, e4]
theorem F228_eq (K : Nat) (op a b f : Int) (ho : 0 ≤ op ∧ op ≤ 7) (ha : 0 ≤ a ∧ a ≤ 255) (hb : 0 ≤ b ∧ b ≤ 255) (hf : 0 ≤ f ∧ f ≤ 255) : F228 K (op, a, b, f) = F116 K (op, a, b, f) := by
  have hx : decide (bits .xor .i64 a b = 0) = decide (a = b) := decide_eq_decide.2 (xor_zero a b ha.1 ha.2 hb.1 hb.2)
  have hc : f / 16 % 2 = 0 ∨ f / 16 % 2 = 1 := by omega
  have t1 : Int.tmod a 16 = a % 16 := tmE ha.1
  have t2 : Int.tmod b 16 = b % 16 := tmE hb.1
  have hop : op = 0 ∨ op = 1 ∨ op = 2 ∨ op = 3 ∨ op = 4 ∨ op = 5 ∨ op = 6 ∨ op = 7 := by omega
  have sub : ∀ c : Int, (c = 0 ∨ c = 1) → w64 (w64 (a - b) - c) % 256 = Int.tmod (w64 (w64 (w64 (a - b) - c) + 512)) 256 := fun c hc => by
    rw [w64_id (n := a - b) (by omega) (by omega), w64_id (n := a - b - c) (by omega) (by omega), w64_id (by omega) (by omega), tmE (by omega)]; omega
  have add : ∀ c : Int, (c = 0 ∨ c = 1) → w64 (w64 (a + b) + c) % 256 = Int.tmod (w64 (w64 (a + b) + c)) 256 := fun c hc => by
    rw [w64_id (n := a + b) (by omega) (by omega), w64_id (n := a + b + c) (by omega) (by omega), tmE (by omega)]
  unfold F228 F116
  rcases hop with rfl | rfl | rfl | rfl | rfl | rfl | rfl | rfl
  all_goals
    simp only [F54_in', F80_in, bindO_s, inR_t ha, inR_t hb, inR_t hf, Bool.not_true, branch_f, branch_t, csO_r, csO_l, F211_16 K f hf, F162_eq K f hf.1 hf.2, F210_eq, F161_eq, and15, and255, hx, t1, t2, Int.reduceEq, decide_true, decide_false, branch_ite, if_true, if_false, show inR 0 0 7 = true from rfl, show inR 1 0 7 = true from rfl, show inR 2 0 7 = true from rfl, show inR 3 0 7 = true from rfl, show inR 4 0 7 = true from rfl, show inR 5 0 7 = true from rfl, show inR 6 0 7 = true from rfl, show inR 7 0 7 = true from rfl, sub 0 (.inl rfl), add 0 (.inl rfl)]
  all_goals
    rcases hc with e | e <;> simp only [e, Int.reduceEq, if_true, if_false, bindO_s, decide_true, decide_false, branch_t, branch_f, csO_l, csO_r, add 0 (.inl rfl), add 1 (.inr rfl), sub 0 (.inl rfl), sub 1 (.inr rfl), F210_eq, F161_eq, Int.reduceEq]
def turnChk (K op v t : Nat) : Bool := decide (F209 K ((op : Int), (v : Int), 16 * (t : Int)) = F160 K ((op : Int), (v : Int), 16 * (t : Int)))
theorem turnAll (K : Nat) : ((List.range 8).all fun op => (List.range 256).all fun v => (List.range 2).all fun t => turnChk K op v t) = true := by kernel_rfl
theorem F209_f (K : Nat) (op v f g : Int) (hf : 0 ≤ f ∧ f ≤ 255) (hg : 0 ≤ g ∧ g ≤ 255) (e : f / 16 % 2 = g / 16 % 2) (ho : 0 ≤ op ∧ op ≤ 7) (hv : 0 ≤ v ∧ v ≤ 255) : F209 K (op, v, f) = F209 K (op, v, g) := by
  have ef : w64 (Int.tdiv f 16) % 2 = w64 (Int.tdiv g 16) % 2 := by
    rw [tdE hf.1, tdE hg.1, w64_id (by omega) (by omega), w64_id (by omega) (by omega)]; exact e
  unfold F209
  simp only [F54_in', F80_in, bindO_s, inR_t ho, inR_t hv, inR_t hf, inR_t hg, Bool.not_true, branch_f, csO_r, and1, ef]
theorem F160_f (K : Nat) (op v f g : Int) (hf : 0 ≤ f ∧ f ≤ 255) (hg : 0 ≤ g ∧ g ≤ 255) (e : f / 16 % 2 = g / 16 % 2) : F160 K (op, v, f) = F160 K (op, v, g) := by
  unfold F160
  simp only [F162_eq K f hf.1 hf.2, F162_eq K g hg.1 hg.2, e]
theorem F209_eq (K : Nat) (op v f : Int) (ho : 0 ≤ op ∧ op ≤ 7) (hv : 0 ≤ v ∧ v ≤ 255) (hf : 0 ≤ f ∧ f ≤ 255) : F209 K (op, v, f) = F160 K (op, v, f) := by
  obtain ⟨o, rfl⟩ : ∃ n : Nat, op = (n : Int) := ⟨op.toNat, by omega⟩
  obtain ⟨b, rfl⟩ : ∃ n : Nat, v = (n : Int) := ⟨v.toNat, by omega⟩
  obtain ⟨t, ht⟩ : ∃ n : Nat, f / 16 % 2 = (n : Int) := ⟨(f / 16 % 2).toNat, by omega⟩
  have hg : 0 ≤ 16 * (t : Int) ∧ 16 * (t : Int) ≤ 255 := by omega
  have e : f / 16 % 2 = 16 * (t : Int) / 16 % 2 := by omega
  have h1 := List.all_eq_true.1 (turnAll K) o (List.mem_range.2 (by omega))
  have h2 := List.all_eq_true.1 h1 b (List.mem_range.2 (by omega))
  have h3 := List.all_eq_true.1 h2 t (List.mem_range.2 (by omega))
  rw [F209_f K o b f _ hf hg e ho hv, F160_f K o b f _ hf hg e]
  exact of_decide_eq_true h3
def stepChk (K v k : Nat) (d : Bool) : Bool := decide (F218 K ((v : Int), 16 * (k : Int), d) = F169 K ((v : Int), 16 * (k : Int), d))
theorem stepAll (K : Nat) : ((List.range 256).all fun v => (List.range 16).all fun k => stepChk K v k true && stepChk K v k false) = true := by kernel_rfl
theorem F218_eq (K : Nat) (v f : Int) (d : Bool) (hv : 0 ≤ v ∧ v ≤ 255) (hf : 0 ≤ f ∧ f ≤ 255 ∧ f % 16 = 0) : F218 K (v, f, d) = F169 K (v, f, d) := by
  obtain ⟨b, rfl⟩ : ∃ n : Nat, v = (n : Int) := ⟨v.toNat, by omega⟩
  obtain ⟨t, rfl⟩ : ∃ n : Nat, f = 16 * (n : Int) := ⟨(f / 16).toNat, by omega⟩
  have h1 := List.all_eq_true.1 (stepAll K) b (List.mem_range.2 (by omega))
  have h2 := List.all_eq_true.1 h1 t (List.mem_range.2 (by omega))
  rw [Bool.and_eq_true] at h2
  cases d with
  | true => exact of_decide_eq_true h2.1
  | false => exact of_decide_eq_true h2.2
def daaChk (K v k : Nat) : Bool := decide (F252 K ((v : Int), 16 * (k : Int)) = F232 K ((v : Int), 16 * (k : Int)))
theorem daaAll (K : Nat) : ((List.range 256).all fun v => (List.range 16).all fun k => daaChk K v k) = true := by kernel_rfl
theorem F252_eq (K : Nat) (v f : Int) (hv : 0 ≤ v ∧ v ≤ 255) (hf : 0 ≤ f ∧ f ≤ 255 ∧ f % 16 = 0) : F252 K (v, f) = F232 K (v, f) := by
  obtain ⟨b, rfl⟩ : ∃ n : Nat, v = (n : Int) := ⟨v.toNat, by omega⟩
  obtain ⟨t, rfl⟩ : ∃ n : Nat, f = 16 * (n : Int) := ⟨(f / 16).toNat, by omega⟩
  have h1 := List.all_eq_true.1 (daaAll K) b (List.mem_range.2 (by omega))
  have h2 := List.all_eq_true.1 h1 t (List.mem_range.2 (by omega))
  exact of_decide_eq_true h2
end Go.U.Tryz
