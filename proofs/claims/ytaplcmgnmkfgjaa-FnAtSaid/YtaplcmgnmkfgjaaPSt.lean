/- The machine that the laws draw and step: it always answers, and stays right. No condition. -/
import Derived.Test.YtaplcmgnmkfgjaaPTo
import Derived.Test.YtaplcmgnmkfgjaaPFm
set_option linter.unusedVariables false
set_option linter.unusedSimpArgs false
set_option linter.unusedSectionVars false
namespace Go.U.Try
open Go Go.U
set_option linter.unusedVariables false
set_option linter.unusedSimpArgs false
set_option maxRecDepth 20000

/-- A machine that works, and whether something could not be told. -/
abbrev WT := Int × Int × Int × Int × Int × Int × Int × Int × Int × Int × Bool × Bool × List UInt8 × Int × Int × List UInt8 × Int × Bool × Int × List UInt8 × List UInt8 × List Int × Int × Bool

/-- A right cart, part by part. -/
structure CInv (rom : List UInt8) (kind bank : Int) (ram : List UInt8) (rb : Int) (on : Bool) (mode : Int) : Prop where
  hrom : rom.length % 256 = 0 ∧ 512 ≤ rom.length ∧ rom.length ≤ 4096
  hram : ram.length = 256
  hkind : kind = 0 ∨ kind = 1 ∨ kind = 2
  hbank : 0 ≤ bank ∧ bank ≤ 255
  hrb : 0 ≤ rb ∧ rb ≤ 3
  k0 : kind = 0 → bank = 1 ∧ rb = 0 ∧ mode = 0
  k1 : kind = 1 → 1 ≤ bank ∧ bank ≤ 31 ∧ 0 ≤ mode ∧ mode ≤ 1
  k2 : kind = 2 → mode = 0
  on0 : kind = 0 → on = false

theorem CInv.of {rom : List UInt8} {kind bank : Int} {ram : List UInt8} {rb : Int} {on : Bool} {mode : Int} (h : cartOk rom kind bank ram rb on mode = true) : CInv rom kind bank ram rb on mode := by
  simp only [cartOk, cartKind, Bool.and_eq_true, Bool.not_eq_true', decide_eq_true_eq, decide_eq_false_iff_not] at h
  obtain ⟨⟨h1, h2⟩, h3⟩ := h
  have hb : rom.length % 256 = 0 ∧ 2 ≤ rom.length / 256 ∧ rom.length / 256 ≤ 16 := by
    unfold banks at h1; split at h1
    · assumption
    · exact absurd rfl h1
  split at h3
  · simp [inR] at h3
    exact ⟨by omega, h2, by omega, by omega, by omega, fun _ => by omega, fun _ => by omega, fun _ => by omega, fun _ => h3.1.2⟩
  · split at h3
    · simp [inR] at h3
      exact ⟨by omega, h2, by omega, by omega, by omega, fun _ => by omega, fun _ => by omega, fun _ => by omega, fun _ => by omega⟩
    · split at h3
      · simp [inR] at h3
        exact ⟨by omega, h2, by omega, by omega, by omega, fun _ => by omega, fun _ => by omega, fun _ => by omega, fun _ => by omega⟩
      · cases h3

theorem CInv.ok {rom : List UInt8} {kind bank : Int} {ram : List UInt8} {rb : Int} {on : Bool} {mode : Int} (h : CInv rom kind bank ram rb on mode) : cartOk rom kind bank ram rb on mode = true := by
  obtain ⟨h1, h2, h3, h4, h5, h6, h7, h8, h9⟩ := h
  have hb : ¬ banks rom = 0 := by unfold banks; rw [if_pos ⟨h1.1, by omega, by omega⟩]; omega
  simp only [cartOk, cartKind, decide_eq_false hb, h2, Bool.not_false, Bool.true_and, decide_true]
  rcases h3 with rfl | rfl | rfl
  · obtain ⟨e1, e2, e3⟩ := h6 rfl
    have e4 := h9 rfl
    subst e1 e2 e3 e4; rfl
  · obtain ⟨e1, e2, e3, e4⟩ := h7 rfl
    simp [inR]; omega
  · have := h8 rfl
    simp [inR]; omega

theorem CInv.banks {rom : List UInt8} {kind bank : Int} {ram : List UInt8} {rb : Int} {on : Bool} {mode : Int} (h : CInv rom kind bank ram rb on mode) : banks rom = ((rom.length / 256 : Nat) : Int) := by
  have := h.hrom
  unfold Try.banks; rw [if_pos ⟨this.1, by omega, by omega⟩]

/-- A right machine, part by part. -/
structure WInv (w : WT) : Prop where
  a : 0 ≤ w.1 ∧ w.1 ≤ 255
  f : 0 ≤ w.2.1 ∧ w.2.1 ≤ 255 ∧ w.2.1 % 16 = 0
  b : 0 ≤ w.2.2.1 ∧ w.2.2.1 ≤ 255
  c : 0 ≤ w.2.2.2.1 ∧ w.2.2.2.1 ≤ 255
  d : 0 ≤ w.2.2.2.2.1 ∧ w.2.2.2.2.1 ≤ 255
  e : 0 ≤ w.2.2.2.2.2.1 ∧ w.2.2.2.2.2.1 ≤ 255
  h : 0 ≤ w.2.2.2.2.2.2.1 ∧ w.2.2.2.2.2.2.1 ≤ 255
  l : 0 ≤ w.2.2.2.2.2.2.2.1 ∧ w.2.2.2.2.2.2.2.1 ≤ 255
  sp : 0 ≤ w.2.2.2.2.2.2.2.2.1 ∧ w.2.2.2.2.2.2.2.2.1 ≤ 65535
  pc : 0 ≤ w.2.2.2.2.2.2.2.2.2.1 ∧ w.2.2.2.2.2.2.2.2.2.1 ≤ 65535
  cart : CInv (w.2.2.2.2.2.2.2.2.2.2.2.2.1) (w.2.2.2.2.2.2.2.2.2.2.2.2.2.1) (w.2.2.2.2.2.2.2.2.2.2.2.2.2.2.1) (w.2.2.2.2.2.2.2.2.2.2.2.2.2.2.2.1) (w.2.2.2.2.2.2.2.2.2.2.2.2.2.2.2.2.1) (w.2.2.2.2.2.2.2.2.2.2.2.2.2.2.2.2.2.1) (w.2.2.2.2.2.2.2.2.2.2.2.2.2.2.2.2.2.2.1)
  work : w.2.2.2.2.2.2.2.2.2.2.2.2.2.2.2.2.2.2.2.1.length = 256
  high : w.2.2.2.2.2.2.2.2.2.2.2.2.2.2.2.2.2.2.2.2.1.length = 127
  out : w.2.2.2.2.2.2.2.2.2.2.2.2.2.2.2.2.2.2.2.2.2.1.all byteB = true ∧ w.2.2.2.2.2.2.2.2.2.2.2.2.2.2.2.2.2.2.2.2.2.1.length ≤ 100
  cyc : 0 ≤ w.2.2.2.2.2.2.2.2.2.2.2.2.2.2.2.2.2.2.2.2.2.2.1 ∧ w.2.2.2.2.2.2.2.2.2.2.2.2.2.2.2.2.2.2.2.2.2.2.1 ≤ 1000000000

theorem WInv.set_a {w : WT} (h : WInv w) {v : Int} (hv : 0 ≤ v ∧ v ≤ 255) : WInv (v, w.2) := ⟨hv, h.f, h.b, h.c, h.d, h.e, h.h, h.l, h.sp, h.pc, h.cart, h.work, h.high, h.out, h.cyc⟩
theorem WInv.set_f {w : WT} (h : WInv w) {v : Int} (hv : 0 ≤ v ∧ v ≤ 255 ∧ v % 16 = 0) : WInv (w.1, v, w.2.2) := ⟨h.a, hv, h.b, h.c, h.d, h.e, h.h, h.l, h.sp, h.pc, h.cart, h.work, h.high, h.out, h.cyc⟩
theorem WInv.set_b {w : WT} (h : WInv w) {v : Int} (hv : 0 ≤ v ∧ v ≤ 255) : WInv (w.1, w.2.1, v, w.2.2.2) := ⟨h.a, h.f, hv, h.c, h.d, h.e, h.h, h.l, h.sp, h.pc, h.cart, h.work, h.high, h.out, h.cyc⟩
theorem WInv.set_c {w : WT} (h : WInv w) {v : Int} (hv : 0 ≤ v ∧ v ≤ 255) : WInv (w.1, w.2.1, w.2.2.1, v, w.2.2.2.2) := ⟨h.a, h.f, h.b, hv, h.d, h.e, h.h, h.l, h.sp, h.pc, h.cart, h.work, h.high, h.out, h.cyc⟩
theorem WInv.set_d {w : WT} (h : WInv w) {v : Int} (hv : 0 ≤ v ∧ v ≤ 255) : WInv (w.1, w.2.1, w.2.2.1, w.2.2.2.1, v, w.2.2.2.2.2) := ⟨h.a, h.f, h.b, h.c, hv, h.e, h.h, h.l, h.sp, h.pc, h.cart, h.work, h.high, h.out, h.cyc⟩
theorem WInv.set_e {w : WT} (h : WInv w) {v : Int} (hv : 0 ≤ v ∧ v ≤ 255) : WInv (w.1, w.2.1, w.2.2.1, w.2.2.2.1, w.2.2.2.2.1, v, w.2.2.2.2.2.2) := ⟨h.a, h.f, h.b, h.c, h.d, hv, h.h, h.l, h.sp, h.pc, h.cart, h.work, h.high, h.out, h.cyc⟩
theorem WInv.set_h {w : WT} (h : WInv w) {v : Int} (hv : 0 ≤ v ∧ v ≤ 255) : WInv (w.1, w.2.1, w.2.2.1, w.2.2.2.1, w.2.2.2.2.1, w.2.2.2.2.2.1, v, w.2.2.2.2.2.2.2) := ⟨h.a, h.f, h.b, h.c, h.d, h.e, hv, h.l, h.sp, h.pc, h.cart, h.work, h.high, h.out, h.cyc⟩
theorem WInv.set_l {w : WT} (h : WInv w) {v : Int} (hv : 0 ≤ v ∧ v ≤ 255) : WInv (w.1, w.2.1, w.2.2.1, w.2.2.2.1, w.2.2.2.2.1, w.2.2.2.2.2.1, w.2.2.2.2.2.2.1, v, w.2.2.2.2.2.2.2.2) := ⟨h.a, h.f, h.b, h.c, h.d, h.e, h.h, hv, h.sp, h.pc, h.cart, h.work, h.high, h.out, h.cyc⟩
theorem WInv.set_sp {w : WT} (h : WInv w) {v : Int} (hv : 0 ≤ v ∧ v ≤ 65535) : WInv (w.1, w.2.1, w.2.2.1, w.2.2.2.1, w.2.2.2.2.1, w.2.2.2.2.2.1, w.2.2.2.2.2.2.1, w.2.2.2.2.2.2.2.1, v, w.2.2.2.2.2.2.2.2.2) := ⟨h.a, h.f, h.b, h.c, h.d, h.e, h.h, h.l, hv, h.pc, h.cart, h.work, h.high, h.out, h.cyc⟩
theorem WInv.set_pc {w : WT} (h : WInv w) {v : Int} (hv : 0 ≤ v ∧ v ≤ 65535) : WInv (w.1, w.2.1, w.2.2.1, w.2.2.2.1, w.2.2.2.2.1, w.2.2.2.2.2.1, w.2.2.2.2.2.2.1, w.2.2.2.2.2.2.2.1, w.2.2.2.2.2.2.2.2.1, v, w.2.2.2.2.2.2.2.2.2.2) := ⟨h.a, h.f, h.b, h.c, h.d, h.e, h.h, h.l, h.sp, hv, h.cart, h.work, h.high, h.out, h.cyc⟩
theorem WInv.set_af {w : WT} (h : WInv w) {v f : Int} (hv : 0 ≤ v ∧ v ≤ 255) (hf : 0 ≤ f ∧ f ≤ 255 ∧ f % 16 = 0) : WInv (v, f, w.2.2) := ⟨hv, hf, h.b, h.c, h.d, h.e, h.h, h.l, h.sp, h.pc, h.cart, h.work, h.high, h.out, h.cyc⟩
theorem WInv.set_work {w : WT} (h : WInv w) {v : List UInt8} (hv : v.length = 256) (q : Bool) : WInv (w.1, w.2.1, w.2.2.1, w.2.2.2.1, w.2.2.2.2.1, w.2.2.2.2.2.1, w.2.2.2.2.2.2.1, w.2.2.2.2.2.2.2.1, w.2.2.2.2.2.2.2.2.1, w.2.2.2.2.2.2.2.2.2.1, w.2.2.2.2.2.2.2.2.2.2.1, w.2.2.2.2.2.2.2.2.2.2.2.1, w.2.2.2.2.2.2.2.2.2.2.2.2.1, w.2.2.2.2.2.2.2.2.2.2.2.2.2.1, w.2.2.2.2.2.2.2.2.2.2.2.2.2.2.1, w.2.2.2.2.2.2.2.2.2.2.2.2.2.2.2.1, w.2.2.2.2.2.2.2.2.2.2.2.2.2.2.2.2.1, w.2.2.2.2.2.2.2.2.2.2.2.2.2.2.2.2.2.1, w.2.2.2.2.2.2.2.2.2.2.2.2.2.2.2.2.2.2.1, v, w.2.2.2.2.2.2.2.2.2.2.2.2.2.2.2.2.2.2.2.2.1, w.2.2.2.2.2.2.2.2.2.2.2.2.2.2.2.2.2.2.2.2.2.1, w.2.2.2.2.2.2.2.2.2.2.2.2.2.2.2.2.2.2.2.2.2.2.1, q) := ⟨h.a, h.f, h.b, h.c, h.d, h.e, h.h, h.l, h.sp, h.pc, h.cart, hv, h.high, h.out, h.cyc⟩
theorem WInv.set_high {w : WT} (h : WInv w) {v : List UInt8} (hv : v.length = 127) (q : Bool) : WInv (w.1, w.2.1, w.2.2.1, w.2.2.2.1, w.2.2.2.2.1, w.2.2.2.2.2.1, w.2.2.2.2.2.2.1, w.2.2.2.2.2.2.2.1, w.2.2.2.2.2.2.2.2.1, w.2.2.2.2.2.2.2.2.2.1, w.2.2.2.2.2.2.2.2.2.2.1, w.2.2.2.2.2.2.2.2.2.2.2.1, w.2.2.2.2.2.2.2.2.2.2.2.2.1, w.2.2.2.2.2.2.2.2.2.2.2.2.2.1, w.2.2.2.2.2.2.2.2.2.2.2.2.2.2.1, w.2.2.2.2.2.2.2.2.2.2.2.2.2.2.2.1, w.2.2.2.2.2.2.2.2.2.2.2.2.2.2.2.2.1, w.2.2.2.2.2.2.2.2.2.2.2.2.2.2.2.2.2.1, w.2.2.2.2.2.2.2.2.2.2.2.2.2.2.2.2.2.2.1, w.2.2.2.2.2.2.2.2.2.2.2.2.2.2.2.2.2.2.2.1, v, w.2.2.2.2.2.2.2.2.2.2.2.2.2.2.2.2.2.2.2.2.2.1, w.2.2.2.2.2.2.2.2.2.2.2.2.2.2.2.2.2.2.2.2.2.2.1, q) := ⟨h.a, h.f, h.b, h.c, h.d, h.e, h.h, h.l, h.sp, h.pc, h.cart, h.work, hv, h.out, h.cyc⟩
theorem WInv.set_out {w : WT} (h : WInv w) {v : List Int} (hv : v.all byteB = true ∧ v.length ≤ 100) (q : Bool) : WInv (w.1, w.2.1, w.2.2.1, w.2.2.2.1, w.2.2.2.2.1, w.2.2.2.2.2.1, w.2.2.2.2.2.2.1, w.2.2.2.2.2.2.2.1, w.2.2.2.2.2.2.2.2.1, w.2.2.2.2.2.2.2.2.2.1, w.2.2.2.2.2.2.2.2.2.2.1, w.2.2.2.2.2.2.2.2.2.2.2.1, w.2.2.2.2.2.2.2.2.2.2.2.2.1, w.2.2.2.2.2.2.2.2.2.2.2.2.2.1, w.2.2.2.2.2.2.2.2.2.2.2.2.2.2.1, w.2.2.2.2.2.2.2.2.2.2.2.2.2.2.2.1, w.2.2.2.2.2.2.2.2.2.2.2.2.2.2.2.2.1, w.2.2.2.2.2.2.2.2.2.2.2.2.2.2.2.2.2.1, w.2.2.2.2.2.2.2.2.2.2.2.2.2.2.2.2.2.2.1, w.2.2.2.2.2.2.2.2.2.2.2.2.2.2.2.2.2.2.2.1, w.2.2.2.2.2.2.2.2.2.2.2.2.2.2.2.2.2.2.2.2.1, v, w.2.2.2.2.2.2.2.2.2.2.2.2.2.2.2.2.2.2.2.2.2.2.1, q) := ⟨h.a, h.f, h.b, h.c, h.d, h.e, h.h, h.l, h.sp, h.pc, h.cart, h.work, h.high, hv, h.cyc⟩
theorem WInv.set_cart {w : WT} (h : WInv w) {c : List UInt8 × Int × Int × List UInt8 × Int × Bool × Int} (hv : CInv c.1 c.2.1 c.2.2.1 c.2.2.2.1 c.2.2.2.2.1 c.2.2.2.2.2.1 c.2.2.2.2.2.2) (q : Bool) : WInv (w.1, w.2.1, w.2.2.1, w.2.2.2.1, w.2.2.2.2.1, w.2.2.2.2.2.1, w.2.2.2.2.2.2.1, w.2.2.2.2.2.2.2.1, w.2.2.2.2.2.2.2.2.1, w.2.2.2.2.2.2.2.2.2.1, w.2.2.2.2.2.2.2.2.2.2.1, w.2.2.2.2.2.2.2.2.2.2.2.1, c.1, c.2.1, c.2.2.1, c.2.2.2.1, c.2.2.2.2.1, c.2.2.2.2.2.1, c.2.2.2.2.2.2, w.2.2.2.2.2.2.2.2.2.2.2.2.2.2.2.2.2.2.2.1, w.2.2.2.2.2.2.2.2.2.2.2.2.2.2.2.2.2.2.2.2.1, w.2.2.2.2.2.2.2.2.2.2.2.2.2.2.2.2.2.2.2.2.2.1, w.2.2.2.2.2.2.2.2.2.2.2.2.2.2.2.2.2.2.2.2.2.2.1, q) := ⟨h.a, h.f, h.b, h.c, h.d, h.e, h.h, h.l, h.sp, h.pc, hv, h.work, h.high, h.out, h.cyc⟩
theorem WInv.set_full {w : WT} (h : WInv w) (q : Bool) : WInv (w.1, w.2.1, w.2.2.1, w.2.2.2.1, w.2.2.2.2.1, w.2.2.2.2.2.1, w.2.2.2.2.2.2.1, w.2.2.2.2.2.2.2.1, w.2.2.2.2.2.2.2.2.1, w.2.2.2.2.2.2.2.2.2.1, w.2.2.2.2.2.2.2.2.2.2.1, w.2.2.2.2.2.2.2.2.2.2.2.1, w.2.2.2.2.2.2.2.2.2.2.2.2.1, w.2.2.2.2.2.2.2.2.2.2.2.2.2.1, w.2.2.2.2.2.2.2.2.2.2.2.2.2.2.1, w.2.2.2.2.2.2.2.2.2.2.2.2.2.2.2.1, w.2.2.2.2.2.2.2.2.2.2.2.2.2.2.2.2.1, w.2.2.2.2.2.2.2.2.2.2.2.2.2.2.2.2.2.1, w.2.2.2.2.2.2.2.2.2.2.2.2.2.2.2.2.2.2.1, w.2.2.2.2.2.2.2.2.2.2.2.2.2.2.2.2.2.2.2.1, w.2.2.2.2.2.2.2.2.2.2.2.2.2.2.2.2.2.2.2.2.1, w.2.2.2.2.2.2.2.2.2.2.2.2.2.2.2.2.2.2.2.2.2.1, w.2.2.2.2.2.2.2.2.2.2.2.2.2.2.2.2.2.2.2.2.2.2.1, q) := ⟨h.a, h.f, h.b, h.c, h.d, h.e, h.h, h.l, h.sp, h.pc, h.cart, h.work, h.high, h.out, h.cyc⟩

theorem WInv.set_ime {w : WT} (h : WInv w) (q : Bool) : WInv (w.1, w.2.1, w.2.2.1, w.2.2.2.1, w.2.2.2.2.1, w.2.2.2.2.2.1, w.2.2.2.2.2.2.1, w.2.2.2.2.2.2.2.1, w.2.2.2.2.2.2.2.2.1, w.2.2.2.2.2.2.2.2.2.1, q, w.2.2.2.2.2.2.2.2.2.2.2) := ⟨h.a, h.f, h.b, h.c, h.d, h.e, h.h, h.l, h.sp, h.pc, h.cart, h.work, h.high, h.out, h.cyc⟩
theorem WInv.set_halted {w : WT} (h : WInv w) (q : Bool) : WInv (w.1, w.2.1, w.2.2.1, w.2.2.2.1, w.2.2.2.2.1, w.2.2.2.2.2.1, w.2.2.2.2.2.2.1, w.2.2.2.2.2.2.2.1, w.2.2.2.2.2.2.2.2.1, w.2.2.2.2.2.2.2.2.2.1, w.2.2.2.2.2.2.2.2.2.2.1, q, w.2.2.2.2.2.2.2.2.2.2.2.2) := ⟨h.a, h.f, h.b, h.c, h.d, h.e, h.h, h.l, h.sp, h.pc, h.cart, h.work, h.high, h.out, h.cyc⟩
theorem WInv.set_cyc {w : WT} (h : WInv w) {v : Int} (hv : 0 ≤ v ∧ v ≤ 1000000000) (q : Bool) : WInv (w.1, w.2.1, w.2.2.1, w.2.2.2.1, w.2.2.2.2.1, w.2.2.2.2.2.1, w.2.2.2.2.2.2.1, w.2.2.2.2.2.2.2.1, w.2.2.2.2.2.2.2.2.1, w.2.2.2.2.2.2.2.2.2.1, w.2.2.2.2.2.2.2.2.2.2.1, w.2.2.2.2.2.2.2.2.2.2.2.1, w.2.2.2.2.2.2.2.2.2.2.2.2.1, w.2.2.2.2.2.2.2.2.2.2.2.2.2.1, w.2.2.2.2.2.2.2.2.2.2.2.2.2.2.1, w.2.2.2.2.2.2.2.2.2.2.2.2.2.2.2.1, w.2.2.2.2.2.2.2.2.2.2.2.2.2.2.2.2.1, w.2.2.2.2.2.2.2.2.2.2.2.2.2.2.2.2.2.1, w.2.2.2.2.2.2.2.2.2.2.2.2.2.2.2.2.2.2.1, w.2.2.2.2.2.2.2.2.2.2.2.2.2.2.2.2.2.2.2.1, w.2.2.2.2.2.2.2.2.2.2.2.2.2.2.2.2.2.2.2.2.1, w.2.2.2.2.2.2.2.2.2.2.2.2.2.2.2.2.2.2.2.2.2.1, v, q) := ⟨h.a, h.f, h.b, h.c, h.d, h.e, h.h, h.l, h.sp, h.pc, h.cart, h.work, h.high, h.out, hv⟩

/-! ### Bytes and flags -/

theorem F18_t (K : Nat) (v lo hi : Int) {ρ : Type} {k : Bool → Option ρ} {Q : ρ → Prop} (h1 : lo ≤ v ∧ v ≤ hi → T (k true) Q) (h2 : ¬ (lo ≤ v ∧ v ≤ hi) → T (k false) Q) : T (bindO (F18 K (v, lo, hi)) k) Q := by
  rw [F18_eq, bindO_s]
  unfold inR
  by_cases h : lo ≤ v ∧ v ≤ hi
  · rw [decide_eq_true h]; exact h1 h
  · rw [decide_eq_false h]; exact h2 h
theorem F15_t (K : Nat) (v : Int) {ρ : Type} {k : Bool → Option ρ} {Q : ρ → Prop} (h1 : 0 ≤ v ∧ v ≤ 255 → T (k true) Q) (h2 : ¬ (0 ≤ v ∧ v ≤ 255) → T (k false) Q) : T (bindO (F15 K v) k) Q := by
  rw [F15_eq, bindO_s]
  unfold inR
  by_cases h : 0 ≤ v ∧ v ≤ 255
  · rw [decide_eq_true h]; exact h1 h
  · rw [decide_eq_false h]; exact h2 h
theorem F16_t (K : Nat) (v : Int) {ρ : Type} {k : Bool → Option ρ} {Q : ρ → Prop} (h1 : 0 ≤ v ∧ v ≤ 65535 → T (k true) Q) (h2 : ¬ (0 ≤ v ∧ v ≤ 65535) → T (k false) Q) : T (bindO (F16 K v) k) Q := by
  rw [F16_eq, bindO_s]
  unfold inR
  by_cases h : 0 ≤ v ∧ v ≤ 65535
  · rw [decide_eq_true h]; exact h1 h
  · rw [decide_eq_false h]; exact h2 h

/-- What the flags come to. -/
def flagsOf (z n h c : Bool) : Int := cond z 128 0 + cond n 64 0 + cond h 32 0 + cond c 16 0
theorem flagsOf_ok (z n h c : Bool) : 0 ≤ flagsOf z n h c ∧ flagsOf z n h c ≤ 255 ∧ flagsOf z n h c % 16 = 0 := by
  cases z <;> cases n <;> cases h <;> cases c <;> simp [flagsOf]
theorem F62_eq (K : Nat) (z n h c : Bool) : F62 K (z, n, h, c) = some (flagsOf z n h c) := by
  cases z <;> cases n <;> cases h <;> cases c <;> rfl
theorem F63_eq (K : Nat) (f : Int) (h0 : 0 ≤ f) (h1 : f ≤ 255) : F63 K f = some (f / 16 % 2) := by
  unfold F63
  congr 1
  (first | omega | ((simp (disch := omega) only [w64_id, w64u_id, Int.tmod_eq_emod_of_nonneg, Int.tdiv_eq_ediv_of_nonneg]); omega) | (simp (disch := omega) only [w64_id, w64u_id, Int.tmod_eq_emod_of_nonneg, Int.tdiv_eq_ediv_of_nonneg]) | (simp only [tm2, tm4, tm8, tm16, tm32, tm40, tm256, tm4096, tm65536, td2, td8, td16, td32, td64, td128, td256, w64_eq, decide_eq_true_eq, decide_eq_false_iff_not, not_and, Int.not_le, Int.not_lt] at *; omega))
theorem F61_t (K : Nat) (op v f : Int) (v0 : 0 ≤ v ∧ v ≤ 255) (f0 : 0 ≤ f ∧ f ≤ 255) : T (F61 K (op, v, f)) fun r => (0 ≤ r.1 ∧ r.1 ≤ 255) ∧ 0 ≤ r.2 ∧ r.2 ≤ 255 ∧ r.2 % 16 = 0 := by
  unfold F61
  refine T.bind (S := fun r => 0 ≤ r.1 ∧ r.1 ≤ 255) ?_ fun r hr => ?_
  · dsimp only
    rw [F63_eq K f f0.1 f0.2]
    refine T.br (fun _ => T.ret ?_) fun _ => T.br (fun _ => T.ret ?_) fun _ => T.br (fun _ => T.binds (T.ret ?_)) fun _ => T.br (fun _ => T.binds (T.ret ?_)) fun _ => T.br (fun _ => T.ret ?_) fun _ => T.br (fun _ => T.ret ?_) fun _ => T.br (fun _ => T.ret ?_) fun _ => T.ret ?_ <;> dsimp only <;> (first | omega | ((simp (disch := omega) only [w64_id, w64u_id, Int.tmod_eq_emod_of_nonneg, Int.tdiv_eq_ediv_of_nonneg]); omega) | (simp (disch := omega) only [w64_id, w64u_id, Int.tmod_eq_emod_of_nonneg, Int.tdiv_eq_ediv_of_nonneg]) | (simp only [tm2, tm4, tm8, tm16, tm32, tm40, tm256, tm4096, tm65536, td2, td8, td16, td32, td64, td128, td256, w64_eq, decide_eq_true_eq, decide_eq_false_iff_not, not_and, Int.not_le, Int.not_lt] at *; omega))
  · rw [F62_eq]
    exact T.binds (T.ret ⟨hr, flagsOf_ok _ _ _ _⟩)

/-! ### Carts and the bus -/

theorem byte_u8 (b : UInt8) : 0 ≤ w64 (b.toNat : Int) ∧ w64 (b.toNat : Int) ≤ 255 := by
  have := b.toNat_lt
  rw [w64_id (by omega) (by omega)]; omega

theorem F92_t (K : Nat) (rom : List UInt8) (kind bank : Int) (ram : List UInt8) (rb : Int) (on : Bool) (mode : Int) (h : CInv rom kind bank ram rb on mode) : T (F92 K (rom, kind, bank, ram, rb, on, mode)) fun r => 0 ≤ r ∧ r ≤ 3 := by
  unfold F92
  refine T.bindbr (fun _ => T.binds (T.br (fun _ => T.ret ?_) fun _ => T.ret ?_)) fun _ => T.binds (T.br (fun _ => T.ret ?_) fun _ => T.ret ?_) <;> first | exact h.hrb | (constructor <;> decide)

theorem F85_t (K : Nat) (rom : List UInt8) (kind bank : Int) (ram : List UInt8) (rb : Int) (on : Bool) (mode : Int) (h : CInv rom kind bank ram rb on mode) (addr : Int) (ha : 0 ≤ addr) : T (F85 K (rom, kind, bank, ram, rb, on, mode, addr)) fun r => 0 ≤ r ∧ r ≤ 255 := by
  have h1 := h.hrom
  have h2 := h.hbank
  have h4 := h.hram
  have h5 := h.hrb
  unfold F85
  refine F18_t _ _ _ _ (fun g => T.br (fun _ => T.nth ha (by dsimp only at g ⊢; omega) fun v _ _ => T.ret (byte_u8 v)) nofun) fun g => T.br nofun fun _ => ?_
  refine F18_t _ _ _ _ (fun g2 => T.br (fun _ => ?_) nofun) fun g2 => T.br nofun fun _ => ?_
  · have e : Try.banks rom = ((rom.length / 256 : Nat) : Int) := h.banks
    have hm : 0 ≤ Int.tmod bank ((rom.length / 256 : Nat) : Int) ∧ Int.tmod bank ((rom.length / 256 : Nat) : Int) < ((rom.length / 256 : Nat) : Int) := ⟨Int.tmod_nonneg _ h2.1, Int.tmod_lt_of_pos _ (by omega)⟩
    rw [F35_eq K rom (by unfold maxLen; omega), bindO_s, e]
    refine T.guard (nd0 (by omega)) ?_
    dsimp only at g2 ⊢
    generalize Int.tmod bank ((rom.length / 256 : Nat) : Int) = t at hm ⊢
    have e1 : w64 (w64 (w64 (t * 256) + addr) - 256) = t * 256 + addr - 256 := by (simp (disch := omega) only [w64_id, w64u_id, Int.tmod_eq_emod_of_nonneg, Int.tdiv_eq_ediv_of_nonneg])
    rw [e1]
    exact T.nth (by omega) (by omega) fun v _ _ => T.ret (byte_u8 v)
  · refine T.bindbr (fun gon => ?_) fun gon => ?_
    · refine T.bindbind ?_
      refine F18_t _ _ _ _ (fun g3 => T.binds (T.br (fun _ => ?_) nofun)) fun g3 => T.binds (T.br nofun fun _ => T.ret (by constructor <;> decide))
      refine T.bind (F92_t K rom kind bank ram rb on mode h) fun r hr => ?_
      dsimp only at g3 ⊢
      have e1 : w64 (w64 (w64 (r * 64) + addr) - 40960) = r * 64 + addr - 40960 := by (simp (disch := omega) only [w64_id, w64u_id, Int.tmod_eq_emod_of_nonneg, Int.tdiv_eq_ediv_of_nonneg])
      rw [e1]
      exact T.nth (by omega) (by omega) fun v _ _ => T.ret (byte_u8 v)
    · exact T.binds (T.br nofun fun _ => T.ret (by constructor <;> decide))

theorem F59_t (K : Nat) (w : WT) (h : WInv w) (addr : Int) (ha : 0 ≤ addr) : T (F59 K (w.1, w.2.1, w.2.2.1, w.2.2.2.1, w.2.2.2.2.1, w.2.2.2.2.2.1, w.2.2.2.2.2.2.1, w.2.2.2.2.2.2.2.1, w.2.2.2.2.2.2.2.2.1, w.2.2.2.2.2.2.2.2.2.1, w.2.2.2.2.2.2.2.2.2.2.1, w.2.2.2.2.2.2.2.2.2.2.2.1, w.2.2.2.2.2.2.2.2.2.2.2.2.1, w.2.2.2.2.2.2.2.2.2.2.2.2.2.1, w.2.2.2.2.2.2.2.2.2.2.2.2.2.2.1, w.2.2.2.2.2.2.2.2.2.2.2.2.2.2.2.1, w.2.2.2.2.2.2.2.2.2.2.2.2.2.2.2.2.1, w.2.2.2.2.2.2.2.2.2.2.2.2.2.2.2.2.2.1, w.2.2.2.2.2.2.2.2.2.2.2.2.2.2.2.2.2.2.1, w.2.2.2.2.2.2.2.2.2.2.2.2.2.2.2.2.2.2.2.1, w.2.2.2.2.2.2.2.2.2.2.2.2.2.2.2.2.2.2.2.2.1, w.2.2.2.2.2.2.2.2.2.2.2.2.2.2.2.2.2.2.2.2.2.1, w.2.2.2.2.2.2.2.2.2.2.2.2.2.2.2.2.2.2.2.2.2.2.1, addr)) fun r => 0 ≤ r ∧ r ≤ 255 := by
  have h1 := h.work
  have h2 := h.high
  unfold F59
  refine F18_t _ _ _ _ (fun g => T.br (fun _ => ?_) nofun) fun g => T.br nofun fun _ => ?_
  · dsimp only at g ⊢
    rw [w64_id (n := addr - 49152) (by omega) (by omega)]
    exact T.nth (by omega) (by omega) fun v _ _ => T.ret (byte_u8 v)
  refine F18_t _ _ _ _ (fun g => T.br (fun _ => ?_) nofun) fun g => T.br nofun fun _ => ?_
  · dsimp only at g ⊢
    rw [w64_id (n := addr - 65408) (by omega) (by omega)]
    exact T.nth (by omega) (by omega) fun v _ _ => T.ret (byte_u8 v)
  exact T.bind (F85_t K _ _ _ _ _ _ _ h.cart addr ha) fun r hr => T.ret hr

theorem ofB_length (l : List UInt8) : (ofB l).length = l.length := by unfold ofB; simp
theorem toB_length (l : List Int) : (toB l).length = l.length := by unfold toB; simp

theorem F93_t (K : Nat) (s : List UInt8) (at_ v : Int) (h0 : 0 ≤ at_) (h1 : at_ < (s.length : Int)) : T (F93 K (s, at_, v)) fun r => r.length = s.length := by
  unfold F93
  have e := ofB_length s
  refine T.guard (decide_eq_true ⟨h0, by dsimp only; omega⟩) (T.nthN (by dsimp only; omega) fun x _ _ => T.ret ?_)
  dsimp only
  rw [toB_length, List.length_set, e]

theorem F94_t (K : Nat) (rom : List UInt8) (kind bank : Int) (ram : List UInt8) (rb : Int) (on : Bool) (mode : Int) (h : CInv rom kind bank ram rb on mode) (addr v : Int) (ha : 0 ≤ addr) (hv : 0 ≤ v ∧ v ≤ 255) : T (F94 K (rom, kind, bank, ram, rb, on, mode, addr, v)) fun c => CInv c.1 c.2.1 c.2.2.1 c.2.2.2.1 c.2.2.2.2.1 c.2.2.2.2.2.1 c.2.2.2.2.2.2 := by
  obtain ⟨h1, h2, h3, h4, h5, h6, h7, h8, h9⟩ := h
  unfold F94
  have em32 : Int.tmod v 32 = v % 32 := Int.tmod_eq_emod_of_nonneg (by omega)
  have em4 : Int.tmod v 4 = v % 4 := Int.tmod_eq_emod_of_nonneg (by omega)
  have em2 : Int.tmod v 2 = v % 2 := Int.tmod_eq_emod_of_nonneg (by omega)
  refine T.br (fun g => T.ret ⟨h1, h2, h3, h4, h5, h6, h7, h8, h9⟩) fun g => ?_
  have g' : ¬ kind = 0 := of_decide_eq_false g
  refine T.br (fun g1 => T.ret ⟨h1, h2, h3, h4, h5, h6, h7, h8, fun e => absurd e g'⟩) fun g1 => ?_
  refine T.bindbr (fun g2 => T.binds ?_) fun g2 => T.binds ?_
  · refine T.br (fun g3 => T.ret ?_) fun g3 => T.br (fun _ => T.ret ?_) fun g4 => absurd (g2.symm.trans g4) (by simp)
    · have e2 : kind = 2 := of_decide_eq_true g3
      exact ⟨h1, h2, h3, hv, h5, fun e => absurd e g', fun e => by dsimp only at e; omega, h8, fun e => absurd e g'⟩
    · have e2 : ¬ kind = 2 := of_decide_eq_false g3
      dsimp only
      rw [em32]
      unfold mxI
      refine ⟨h1, h2, h3, ?_, h5, fun e => absurd e g', fun e => ?_, h8, fun e => absurd e g'⟩
      · split <;> omega
      · have := h7 e; split <;> omega
  · refine T.br nofun fun _ => T.br (fun g4 => absurd (g2.symm.trans g4) (by simp)) fun _ => ?_
    refine T.br (fun _ => T.ret ?_) fun _ => ?_
    · dsimp only
      rw [em4]
      exact ⟨h1, h2, h3, h4, by omega, fun e => absurd e g', h7, h8, fun e => absurd e g'⟩
    refine T.br (fun _ => T.br (fun g5 => T.ret ?_) fun g5 => T.ret ⟨h1, h2, h3, h4, h5, h6, h7, h8, h9⟩) fun _ => ?_
    · have e1 : kind = 1 := of_decide_eq_true g5
      dsimp only
      rw [em2]
      exact ⟨h1, h2, h3, h4, h5, fun e => absurd e g', fun e => by have := h7 e; omega, fun e => by omega, fun e => absurd e g'⟩
    · refine T.bindbr (fun gon => T.bindbind ?_) fun gon => T.binds (T.br nofun fun _ => T.ret ⟨h1, h2, h3, h4, h5, h6, h7, h8, h9⟩)
      refine F18_t _ _ _ _ (fun g6 => T.binds (T.br (fun _ => ?_) nofun)) fun g6 => T.binds (T.br nofun fun _ => T.ret ⟨h1, h2, h3, h4, h5, h6, h7, h8, h9⟩)
      refine T.bind (F92_t K _ _ _ _ _ _ _ ⟨h1, h2, h3, h4, h5, h6, h7, h8, h9⟩) fun r hr => ?_
      dsimp only at g6 ⊢
      have e1 : w64 (w64 (w64 (r * 64) + addr) - 40960) = r * 64 + addr - 40960 := by (simp (disch := omega) only [w64_id, w64u_id, Int.tmod_eq_emod_of_nonneg, Int.tdiv_eq_ediv_of_nonneg])
      rw [e1]
      refine T.bind (F93_t K ram _ v (by omega) (by omega)) fun x hx => T.ret ?_
      exact ⟨h1, by rw [hx]; exact h2, h3, h4, h5, h6, h7, h8, h9⟩

/-- A write: right it stays. -/
theorem F87_t (K : Nat) (w : WT) (h : WInv w) (addr v : Int) (ha : 0 ≤ addr) (hv : 0 ≤ v ∧ v ≤ 255) : T (F87 K (w.1, w.2.1, w.2.2.1, w.2.2.2.1, w.2.2.2.2.1, w.2.2.2.2.2.1, w.2.2.2.2.2.2.1, w.2.2.2.2.2.2.2.1, w.2.2.2.2.2.2.2.2.1, w.2.2.2.2.2.2.2.2.2.1, w.2.2.2.2.2.2.2.2.2.2.1, w.2.2.2.2.2.2.2.2.2.2.2.1, w.2.2.2.2.2.2.2.2.2.2.2.2.1, w.2.2.2.2.2.2.2.2.2.2.2.2.2.1, w.2.2.2.2.2.2.2.2.2.2.2.2.2.2.1, w.2.2.2.2.2.2.2.2.2.2.2.2.2.2.2.1, w.2.2.2.2.2.2.2.2.2.2.2.2.2.2.2.2.1, w.2.2.2.2.2.2.2.2.2.2.2.2.2.2.2.2.2.1, w.2.2.2.2.2.2.2.2.2.2.2.2.2.2.2.2.2.2.1, w.2.2.2.2.2.2.2.2.2.2.2.2.2.2.2.2.2.2.2.1, w.2.2.2.2.2.2.2.2.2.2.2.2.2.2.2.2.2.2.2.2.1, w.2.2.2.2.2.2.2.2.2.2.2.2.2.2.2.2.2.2.2.2.2.1, w.2.2.2.2.2.2.2.2.2.2.2.2.2.2.2.2.2.2.2.2.2.2.1, addr, v)) fun r => WInv r := by
  have h1 := h.work
  have h2 := h.high
  have h3 := h.out
  unfold F87
  refine F18_t _ _ _ _ (fun g => T.br (fun _ => ?_) nofun) fun g => T.br nofun fun _ => ?_
  · dsimp only at g ⊢
    rw [w64_id (n := addr - 49152) (by omega) (by omega)]
    exact T.bind (F93_t K _ _ v (by omega) (by omega)) fun r hr => T.ret (h.set_work (hr.trans h1) true)
  refine F18_t _ _ _ _ (fun g => T.br (fun _ => ?_) nofun) fun g => T.br nofun fun _ => ?_
  · dsimp only at g ⊢
    rw [w64_id (n := addr - 65408) (by omega) (by omega)]
    exact T.bind (F93_t K _ _ v (by omega) (by omega)) fun r hr => T.ret (h.set_high (hr.trans h2) true)
  refine T.br (fun _ => T.br (fun _ => T.ret (h.set_full false)) fun g3 => ?_) fun _ => ?_
  · have g4 := of_decide_eq_false g3
    dsimp only at g4 ⊢
    refine T.guard (by unfold fitN; exact decide_eq_true (by omega)) (T.guard (by unfold fitN; exact decide_eq_true (by simp; omega)) (T.ret (h.set_out ⟨?_, ?_⟩ true)))
    · rw [List.all_append, List.nil_append, h3.1]
      simp [byteB, inR]; omega
    · simp; omega
  · exact T.bind (F94_t K _ _ _ _ _ _ _ h.cart addr v ha hv) fun c hc => T.ret (h.set_cart hc true)

theorem F64_t (K : Nat) (w : WT) (h : WInv w) (addr v : Int) (ha : 0 ≤ addr) (hv : 0 ≤ v ∧ v ≤ 255) : T (F64 K (addr, v, w)) fun r => WInv r := by
  unfold F64
  refine T.bind (F87_t K w h (Int.tmod addr 65536) v (Int.tmod_nonneg _ ha) hv) fun r hr => T.br (fun _ => T.ret (hr.set_full _)) fun _ => T.ret (hr.set_full _)

/-! ### Registers -/

theorem F69_eq (K : Nat) (w : WT) (h : WInv w) : F69 K w = some (256 * w.2.2.2.2.2.2.1 + w.2.2.2.2.2.2.2.1, w) := by
  have h1 := h.h
  have h2 := h.l
  unfold F69
  congr 2
  (simp (disch := omega) only [w64_id, w64u_id, Int.tmod_eq_emod_of_nonneg, Int.tdiv_eq_ediv_of_nonneg])

theorem F51_t (K : Nat) (w : WT) (h : WInv w) (k : Int) (hk : 0 ≤ k ∧ k ≤ 7) : T (F51 K (k, w)) fun r => (0 ≤ r.1 ∧ r.1 ≤ 255) ∧ r.2 = w := by
  unfold F51
  refine T.br (fun g => ?_) fun g => ?_
  · rw [F69_eq K w h, bindO_s]
    have h1 := h.h
    have h2 := h.l
    exact T.bind (F59_t K w h _ (by dsimp only; omega)) fun r hr => T.ret ⟨hr, rfl⟩
  · refine T.guard (decide_eq_true ⟨hk.1, by simp; omega⟩) (T.nthN (by simp; omega) fun v hv _ => T.ret ⟨?_, rfl⟩)
    simp only [List.mem_cons, List.not_mem_nil, or_false] at hv
    rcases hv with rfl | rfl | rfl | rfl | rfl | rfl | rfl | rfl
    · exact h.b
    · exact h.c
    · exact h.d
    · exact h.e
    · exact h.h
    · exact h.l
    · omega
    · exact h.a

theorem F50_t (K : Nat) (w : WT) (h : WInv w) (k v : Int) (hv : 0 ≤ v ∧ v ≤ 255) : T (F50 K (k, v, w)) fun r => WInv r := by
  unfold F50
  refine T.br (fun _ => T.ret (h.set_b hv)) fun _ => T.br (fun _ => T.ret (h.set_c hv)) fun _ => T.br (fun _ => T.ret (h.set_d hv)) fun _ => T.br (fun _ => T.ret (h.set_e hv)) fun _ => T.br (fun _ => T.ret (h.set_h hv)) fun _ => T.br (fun _ => T.ret (h.set_l hv)) fun _ => T.br (fun _ => ?_) fun _ => T.ret (h.set_a hv)
  rw [F69_eq K w h, bindO_s]
  have h1 := h.h
  have h2 := h.l
  exact T.bind (F64_t K w h _ v (by dsimp only; omega) hv) fun r hr => T.ret hr

theorem F65_t (K : Nat) (w : WT) (k : Int) : T (F65 K (k, w)) fun r => r.2 = w := by
  unfold F65
  refine T.bindbr (fun _ => T.binds (T.guard rfl (T.ret rfl))) fun _ => T.binds (T.guard rfl (T.ret rfl))

theorem F66_t (K : Nat) (x : Int) : T (F66 K x) fun r => -128 ≤ r ∧ r ≤ 127 := by
  unfold F66
  refine F18_t _ _ _ _ (fun g => T.br nofun fun _ => T.br (fun g2 => T.ret ?_) fun g2 => T.ret ?_) fun g => T.br (fun _ => T.ret (by omega)) nofun
  · have := of_decide_eq_true g2; (first | omega | ((simp (disch := omega) only [w64_id, w64u_id, Int.tmod_eq_emod_of_nonneg, Int.tdiv_eq_ediv_of_nonneg]); omega) | (simp (disch := omega) only [w64_id, w64u_id, Int.tmod_eq_emod_of_nonneg, Int.tdiv_eq_ediv_of_nonneg]) | (simp only [tm2, tm4, tm8, tm16, tm32, tm40, tm256, tm4096, tm65536, td2, td8, td16, td32, td64, td128, td256, w64_eq, decide_eq_true_eq, decide_eq_false_iff_not, not_and, Int.not_le, Int.not_lt] at *; omega))
  · have := of_decide_eq_false g2; omega

theorem F67_t (K : Nat) (w : WT) (h : WInv w) (p v : Int) (af : Bool) (hv : 0 ≤ v ∧ v ≤ 65535) : T (F67 K (p, v, af, w)) fun r => WInv r := by
  unfold F67
  refine T.br (fun _ => ?_) fun _ => T.br (fun _ => T.ret ?_) fun _ => T.ret (h.set_sp hv)
  · refine T.bind (F50_t K w h _ _ ?_) fun r hr => T.bind (F50_t K r hr _ _ ?_) fun r2 hr2 => T.ret hr2 <;> dsimp only <;> (first | omega | ((simp (disch := omega) only [w64_id, w64u_id, Int.tmod_eq_emod_of_nonneg, Int.tdiv_eq_ediv_of_nonneg]); omega) | (simp (disch := omega) only [w64_id, w64u_id, Int.tmod_eq_emod_of_nonneg, Int.tdiv_eq_ediv_of_nonneg]) | (simp only [tm2, tm4, tm8, tm16, tm32, tm40, tm256, tm4096, tm65536, td2, td8, td16, td32, td64, td128, td256, w64_eq, decide_eq_true_eq, decide_eq_false_iff_not, not_and, Int.not_le, Int.not_lt] at *; omega))
  · refine h.set_af ?_ ?_ <;> dsimp only <;> (first | omega | ((simp (disch := omega) only [w64_id, w64u_id, Int.tmod_eq_emod_of_nonneg, Int.tdiv_eq_ediv_of_nonneg]); omega) | (simp (disch := omega) only [w64_id, w64u_id, Int.tmod_eq_emod_of_nonneg, Int.tdiv_eq_ediv_of_nonneg]) | (simp only [tm2, tm4, tm8, tm16, tm32, tm40, tm256, tm4096, tm65536, td2, td8, td16, td32, td64, td128, td256, w64_eq, decide_eq_true_eq, decide_eq_false_iff_not, not_and, Int.not_le, Int.not_lt] at *; omega))

theorem F70_t (K : Nat) (w : WT) (h : WInv w) (p : Int) (af : Bool) (hp : 0 ≤ p) : T (F70 K (p, af, w)) fun r => (0 ≤ r.1 ∧ r.1 ≤ 65535) ∧ r.2 = w := by
  unfold F70
  refine T.br (fun g => ?_) fun _ => T.br (fun _ => T.ret ⟨?_, rfl⟩) fun _ => T.ret ⟨h.sp, rfl⟩
  · have g1 := of_decide_eq_true g
    dsimp only at g1 ⊢
    refine T.bind (F51_t K w h (w64 (2 * p)) (by (first | omega | ((simp (disch := omega) only [w64_id, w64u_id, Int.tmod_eq_emod_of_nonneg, Int.tdiv_eq_ediv_of_nonneg]); omega) | (simp (disch := omega) only [w64_id, w64u_id, Int.tmod_eq_emod_of_nonneg, Int.tdiv_eq_ediv_of_nonneg]) | (simp only [tm2, tm4, tm8, tm16, tm32, tm40, tm256, tm4096, tm65536, td2, td8, td16, td32, td64, td128, td256, w64_eq, decide_eq_true_eq, decide_eq_false_iff_not, not_and, Int.not_le, Int.not_lt] at *; omega)))) fun r hr => T.bind (F51_t K w h (w64 (w64 (2 * p) + 1)) (by (first | omega | ((simp (disch := omega) only [w64_id, w64u_id, Int.tmod_eq_emod_of_nonneg, Int.tdiv_eq_ediv_of_nonneg]); omega) | (simp (disch := omega) only [w64_id, w64u_id, Int.tmod_eq_emod_of_nonneg, Int.tdiv_eq_ediv_of_nonneg]) | (simp only [tm2, tm4, tm8, tm16, tm32, tm40, tm256, tm4096, tm65536, td2, td8, td16, td32, td64, td128, td256, w64_eq, decide_eq_true_eq, decide_eq_false_iff_not, not_and, Int.not_le, Int.not_lt] at *; omega)))) fun r2 hr2 => T.ret ⟨?_, rfl⟩
    have e1 := hr.1
    have e2 := hr2.1
    (first | omega | ((simp (disch := omega) only [w64_id, w64u_id, Int.tmod_eq_emod_of_nonneg, Int.tdiv_eq_ediv_of_nonneg]); omega) | (simp (disch := omega) only [w64_id, w64u_id, Int.tmod_eq_emod_of_nonneg, Int.tdiv_eq_ediv_of_nonneg]) | (simp only [tm2, tm4, tm8, tm16, tm32, tm40, tm256, tm4096, tm65536, td2, td8, td16, td32, td64, td128, td256, w64_eq, decide_eq_true_eq, decide_eq_false_iff_not, not_and, Int.not_le, Int.not_lt] at *; omega))
  · have e1 := h.a
    have e2 := h.f
    dsimp only
    (first | omega | ((simp (disch := omega) only [w64_id, w64u_id, Int.tmod_eq_emod_of_nonneg, Int.tdiv_eq_ediv_of_nonneg]); omega) | (simp (disch := omega) only [w64_id, w64u_id, Int.tmod_eq_emod_of_nonneg, Int.tdiv_eq_ediv_of_nonneg]) | (simp only [tm2, tm4, tm8, tm16, tm32, tm40, tm256, tm4096, tm65536, td2, td8, td16, td32, td64, td128, td256, w64_eq, decide_eq_true_eq, decide_eq_false_iff_not, not_and, Int.not_le, Int.not_lt] at *; omega))

/-! ### What is reckoned -/

theorem F62_r {K : Nat} {z n h c : Bool} {ρ : Type} {k : Int → Option ρ} {Q : ρ → Prop} (hk : ∀ f, 0 ≤ f ∧ f ≤ 255 ∧ f % 16 = 0 → T (k f) Q) : T (bindO (F62 K (z, n, h, c)) k) Q := by
  rw [F62_eq]; exact T.binds (hk _ (flagsOf_ok _ _ _ _))
theorem F63_r {K : Nat} {f : Int} {ρ : Type} {k : Int → Option ρ} {Q : ρ → Prop} (hf : 0 ≤ f ∧ f ≤ 255) (hk : ∀ c, 0 ≤ c ∧ c ≤ 1 → T (k c) Q) : T (bindO (F63 K f) k) Q := by
  rw [F63_eq K f hf.1 hf.2]; exact T.binds (hk _ (by omega))


theorem F68_t (K : Nat) (a b f : Int) : T (F68 K (a, b, f)) fun r => (0 ≤ r.1 ∧ r.1 ≤ 65535) ∧ 0 ≤ r.2 ∧ r.2 ≤ 255 ∧ r.2 % 16 = 0 := by
  unfold F68
  (repeat' (with_reducible first | apply T.bindbind | (apply F16_t <;> intro _) | (apply F15_t <;> intro _) | (apply T.bindbr <;> intro _) | apply T.binds | (apply T.br <;> intro _) | apply T.csl | apply T.csr | (apply F62_r; intro _ _)))
  all_goals first
    | contradiction
    | exact T.ret ⟨by constructor <;> decide, by decide, by decide, by decide⟩
    | (refine T.ret ⟨?_, by assumption⟩; dsimp only at *; (first | omega | ((simp (disch := omega) only [w64_id, w64u_id, Int.tmod_eq_emod_of_nonneg, Int.tdiv_eq_ediv_of_nonneg]); omega) | (simp (disch := omega) only [w64_id, w64u_id, Int.tmod_eq_emod_of_nonneg, Int.tdiv_eq_ediv_of_nonneg]) | (simp only [tm2, tm4, tm8, tm16, tm32, tm40, tm256, tm4096, tm65536, td2, td8, td16, td32, td64, td128, td256, w64_eq, decide_eq_true_eq, decide_eq_false_iff_not, not_and, Int.not_le, Int.not_lt] at *; omega)))

theorem F71_t (K : Nat) (v f : Int) (d : Bool) : T (F71 K (v, f, d)) fun r => (0 ≤ r.1 ∧ r.1 ≤ 255) ∧ 0 ≤ r.2 ∧ r.2 ≤ 255 ∧ r.2 % 16 = 0 := by
  unfold F71
  (repeat' (with_reducible first | apply T.bindbind | (apply F16_t <;> intro _) | (apply F15_t <;> intro _) | (apply T.bindbr <;> intro _) | apply T.binds | (apply T.br <;> intro _) | apply T.csl | apply T.csr | (apply F62_r; intro _ _)))
  all_goals first
    | contradiction
    | exact T.ret ⟨by constructor <;> decide, by decide, by decide, by decide⟩
    | skip
  all_goals
    refine F63_r (by dsimp only at *; omega) fun c hc => F62_r fun g hg => T.ret ⟨?_, hg⟩
    dsimp only at *
    (first | omega | ((simp (disch := omega) only [w64_id, w64u_id, Int.tmod_eq_emod_of_nonneg, Int.tdiv_eq_ediv_of_nonneg]); omega) | (simp (disch := omega) only [w64_id, w64u_id, Int.tmod_eq_emod_of_nonneg, Int.tdiv_eq_ediv_of_nonneg]) | (simp only [tm2, tm4, tm8, tm16, tm32, tm40, tm256, tm4096, tm65536, td2, td8, td16, td32, td64, td128, td256, w64_eq, decide_eq_true_eq, decide_eq_false_iff_not, not_and, Int.not_le, Int.not_lt] at *; omega))

theorem F88_t (K : Nat) (a f : Int) : T (F88 K (a, f)) fun r => (0 ≤ r.1 ∧ r.1 ≤ 255) ∧ 0 ≤ r.2 ∧ r.2 ≤ 255 ∧ r.2 % 16 = 0 := by
  unfold F88
  (repeat' (with_reducible first | apply T.bindbind | (apply F16_t <;> intro _) | (apply F15_t <;> intro _) | (apply T.bindbr <;> intro _) | apply T.binds | (apply T.br <;> intro _) | apply T.csl | apply T.csr | (apply F62_r; intro _ _)))
  all_goals first
    | contradiction
    | exact T.ret ⟨by constructor <;> decide, by decide, by decide, by decide⟩
    | skip
  all_goals
    refine F63_r (by dsimp only at *; omega) fun c hc => ?_
    (repeat' (with_reducible first | apply T.bindbind | (apply F16_t <;> intro _) | (apply F15_t <;> intro _) | (apply T.bindbr <;> intro _) | apply T.binds | (apply T.br <;> intro _) | apply T.csl | apply T.csr | (apply F62_r; intro _ _)))
    all_goals first
      | contradiction
      | (refine T.ret ⟨?_, by assumption⟩; dsimp only at *; (first | omega | ((simp (disch := omega) only [w64_id, w64u_id, Int.tmod_eq_emod_of_nonneg, Int.tdiv_eq_ediv_of_nonneg]); omega) | (simp (disch := omega) only [w64_id, w64u_id, Int.tmod_eq_emod_of_nonneg, Int.tdiv_eq_ediv_of_nonneg]) | (simp only [tm2, tm4, tm8, tm16, tm32, tm40, tm256, tm4096, tm65536, td2, td8, td16, td32, td64, td128, td256, w64_eq, decide_eq_true_eq, decide_eq_false_iff_not, not_and, Int.not_le, Int.not_lt] at *; omega)))

theorem F74_t (K : Nat) (a b : Int) : T (F74 K (a, b)) fun r => (0 ≤ r.1 ∧ r.1 ≤ 65535) ∧ 0 ≤ r.2 ∧ r.2 ≤ 255 ∧ r.2 % 16 = 0 := by
  unfold F74
  (repeat' (with_reducible first | apply T.bindbind | (apply F16_t <;> intro _) | (apply F15_t <;> intro _) | (apply T.bindbr <;> intro _) | apply T.binds | (apply T.br <;> intro _) | apply T.csl | apply T.csr | (apply F62_r; intro _ _)))
  all_goals first
    | contradiction
    | exact T.ret ⟨by constructor <;> decide, by decide, by decide, by decide⟩
    | (refine T.bind (F66_t K _) fun r hr => F62_r fun g hg => T.ret ⟨?_, hg⟩; dsimp only at *; (first | omega | ((simp (disch := omega) only [w64_id, w64u_id, Int.tmod_eq_emod_of_nonneg, Int.tdiv_eq_ediv_of_nonneg]); omega) | (simp (disch := omega) only [w64_id, w64u_id, Int.tmod_eq_emod_of_nonneg, Int.tdiv_eq_ediv_of_nonneg]) | (simp only [tm2, tm4, tm8, tm16, tm32, tm40, tm256, tm4096, tm65536, td2, td8, td16, td32, td64, td128, td256, w64_eq, decide_eq_true_eq, decide_eq_false_iff_not, not_and, Int.not_le, Int.not_lt] at *; omega)))

theorem F52_t (K : Nat) (op a b f : Int) (ha : 0 ≤ a ∧ a ≤ 255) (hb : 0 ≤ b ∧ b ≤ 255) (hf : 0 ≤ f ∧ f ≤ 255) : T (F52 K (op, a, b, f)) fun r => (0 ≤ r.1 ∧ r.1 ≤ 255) ∧ 0 ≤ r.2 ∧ r.2 ≤ 255 ∧ r.2 % 16 = 0 := by
  have b1 := byte_bits .and (.inl rfl) a b ha.1 ha.2 hb.1 hb.2
  have b2 := byte_bits .or (.inr (.inl rfl)) a b ha.1 ha.2 hb.1 hb.2
  have b3 := byte_bits .xor (.inr (.inr (.inl rfl))) a b ha.1 ha.2 hb.1 hb.2
  unfold F52
  refine T.bind (S := fun x => x.1 = op ∧ x.2.1 = a ∧ x.2.2.1 = b ∧ 0 ≤ x.2.2.2 ∧ x.2.2.2 ≤ 1) ?_ fun x hx => ?_
  · (repeat' (with_reducible first | apply T.bindbind | (apply F16_t <;> intro _) | (apply F15_t <;> intro _) | (apply T.bindbr <;> intro _) | apply T.binds | (apply T.br <;> intro _) | apply T.csl | apply T.csr | (apply F62_r; intro _ _)))
    all_goals first
      | contradiction
      | exact T.ret ⟨rfl, rfl, rfl, by dsimp only; omega, by dsimp only; omega⟩
      | exact F63_r hf fun c hc => T.ret ⟨rfl, rfl, rfl, hc.1, hc.2⟩
  · obtain ⟨x1, x2, x3, x4⟩ := x
    obtain ⟨rfl, rfl, rfl, hc0, hc1⟩ := hx
    (repeat' (with_reducible first | apply T.bindbind | (apply F16_t <;> intro _) | (apply F15_t <;> intro _) | (apply T.bindbr <;> intro _) | apply T.binds | (apply T.br <;> intro _) | apply T.csl | apply T.csr | (apply F62_r; intro _ _)))
    all_goals first
      | contradiction
      | (refine T.ret ⟨?_, by assumption⟩; dsimp only at *; first | assumption | (first | omega | ((simp (disch := omega) only [w64_id, w64u_id, Int.tmod_eq_emod_of_nonneg, Int.tdiv_eq_ediv_of_nonneg]); omega) | (simp (disch := omega) only [w64_id, w64u_id, Int.tmod_eq_emod_of_nonneg, Int.tdiv_eq_ediv_of_nonneg]) | (simp only [tm2, tm4, tm8, tm16, tm32, tm40, tm256, tm4096, tm65536, td2, td8, td16, td32, td64, td128, td256, w64_eq, decide_eq_true_eq, decide_eq_false_iff_not, not_and, Int.not_le, Int.not_lt] at *; omega)))

theorem F72_t (K : Nat) (w : WT) (h : WInv w) (y : Int) : T (F72 K (y, w)) fun r => WInv r := by
  have ha := h.a
  have hf : 0 ≤ w.2.1 ∧ w.2.1 ≤ 255 := ⟨h.f.1, h.f.2.1⟩
  unfold F72
  dsimp only
  rw [F63_eq K w.2.1 hf.1 hf.2, bindO_s]
  refine T.br (fun _ => T.bind (F88_t K _ _) fun r hr => T.ret (h.set_af hr.1 hr.2)) fun _ => ?_
  refine T.br (fun _ => ?_) fun _ => ?_
  · rw [F62_eq]
    refine T.binds (T.ret (h.set_af ?_ (flagsOf_ok _ _ _ _)))
    (first | omega | ((simp (disch := omega) only [w64_id, w64u_id, Int.tmod_eq_emod_of_nonneg, Int.tdiv_eq_ediv_of_nonneg]); omega) | (simp (disch := omega) only [w64_id, w64u_id, Int.tmod_eq_emod_of_nonneg, Int.tdiv_eq_ediv_of_nonneg]) | (simp only [tm2, tm4, tm8, tm16, tm32, tm40, tm256, tm4096, tm65536, td2, td8, td16, td32, td64, td128, td256, w64_eq, decide_eq_true_eq, decide_eq_false_iff_not, not_and, Int.not_le, Int.not_lt] at *; omega))
  refine T.br (fun _ => ?_) fun _ => ?_
  · rw [F62_eq]
    exact T.binds (T.ret (h.set_f (flagsOf_ok _ _ _ _)))
  refine T.br (fun _ => ?_) fun _ => ?_
  · rw [F62_eq]
    exact T.binds (T.ret (h.set_f (flagsOf_ok _ _ _ _)))
  refine T.bind (F61_t K _ _ _ ha hf) fun r hr => ?_
  rw [F63_eq K r.2 hr.2.1 hr.2.2.1, bindO_s, F62_eq]
  exact T.binds (T.ret (h.set_af hr.1 (flagsOf_ok _ _ _ _)))

theorem F73_t (K : Nat) (w : WT) (h : WInv w) : T (F73 K w) fun r => (0 ≤ r.1 ∧ r.1 ≤ 65535) ∧ WInv r.2 := by
  have h1 := h.sp
  unfold F73
  have e : 0 ≤ Int.tmod (w64 (w.2.2.2.2.2.2.2.2.1 + 2)) 65536 ∧ Int.tmod (w64 (w.2.2.2.2.2.2.2.2.1 + 2)) 65536 ≤ 65535 := by (first | omega | ((simp (disch := omega) only [w64_id, w64u_id, Int.tmod_eq_emod_of_nonneg, Int.tdiv_eq_ediv_of_nonneg]); omega) | (simp (disch := omega) only [w64_id, w64u_id, Int.tmod_eq_emod_of_nonneg, Int.tdiv_eq_ediv_of_nonneg]) | (simp only [tm2, tm4, tm8, tm16, tm32, tm40, tm256, tm4096, tm65536, td2, td8, td16, td32, td64, td128, td256, w64_eq, decide_eq_true_eq, decide_eq_false_iff_not, not_and, Int.not_le, Int.not_lt] at *; omega))
  refine T.bind (F59_t K _ (h.set_sp e) _ h1.1) fun r hr => T.bind (F59_t K _ (h.set_sp e) _ (by (first | omega | ((simp (disch := omega) only [w64_id, w64u_id, Int.tmod_eq_emod_of_nonneg, Int.tdiv_eq_ediv_of_nonneg]); omega) | (simp (disch := omega) only [w64_id, w64u_id, Int.tmod_eq_emod_of_nonneg, Int.tdiv_eq_ediv_of_nonneg]) | (simp only [tm2, tm4, tm8, tm16, tm32, tm40, tm256, tm4096, tm65536, td2, td8, td16, td32, td64, td128, td256, w64_eq, decide_eq_true_eq, decide_eq_false_iff_not, not_and, Int.not_le, Int.not_lt] at *; omega)))) fun r2 hr2 => T.ret ⟨?_, h.set_sp e⟩
  dsimp only
  (first | omega | ((simp (disch := omega) only [w64_id, w64u_id, Int.tmod_eq_emod_of_nonneg, Int.tdiv_eq_ediv_of_nonneg]); omega) | (simp (disch := omega) only [w64_id, w64u_id, Int.tmod_eq_emod_of_nonneg, Int.tdiv_eq_ediv_of_nonneg]) | (simp only [tm2, tm4, tm8, tm16, tm32, tm40, tm256, tm4096, tm65536, td2, td8, td16, td32, td64, td128, td256, w64_eq, decide_eq_true_eq, decide_eq_false_iff_not, not_and, Int.not_le, Int.not_lt] at *; omega))

theorem F75_t (K : Nat) (w : WT) (h : WInv w) (v : Int) (hv : 0 ≤ v ∧ v ≤ 65535) : T (F75 K (v, w)) fun r => WInv r := by
  have h1 := h.sp
  unfold F75
  refine T.bind (F64_t K w h _ _ (by (first | omega | ((simp (disch := omega) only [w64_id, w64u_id, Int.tmod_eq_emod_of_nonneg, Int.tdiv_eq_ediv_of_nonneg]); omega) | (simp (disch := omega) only [w64_id, w64u_id, Int.tmod_eq_emod_of_nonneg, Int.tdiv_eq_ediv_of_nonneg]) | (simp only [tm2, tm4, tm8, tm16, tm32, tm40, tm256, tm4096, tm65536, td2, td8, td16, td32, td64, td128, td256, w64_eq, decide_eq_true_eq, decide_eq_false_iff_not, not_and, Int.not_le, Int.not_lt] at *; omega))) (by dsimp only; (first | omega | ((simp (disch := omega) only [w64_id, w64u_id, Int.tmod_eq_emod_of_nonneg, Int.tdiv_eq_ediv_of_nonneg]); omega) | (simp (disch := omega) only [w64_id, w64u_id, Int.tmod_eq_emod_of_nonneg, Int.tdiv_eq_ediv_of_nonneg]) | (simp only [tm2, tm4, tm8, tm16, tm32, tm40, tm256, tm4096, tm65536, td2, td8, td16, td32, td64, td128, td256, w64_eq, decide_eq_true_eq, decide_eq_false_iff_not, not_and, Int.not_le, Int.not_lt] at *; omega)))) fun r hr => T.bind (F64_t K r hr _ _ (by (first | omega | ((simp (disch := omega) only [w64_id, w64u_id, Int.tmod_eq_emod_of_nonneg, Int.tdiv_eq_ediv_of_nonneg]); omega) | (simp (disch := omega) only [w64_id, w64u_id, Int.tmod_eq_emod_of_nonneg, Int.tdiv_eq_ediv_of_nonneg]) | (simp only [tm2, tm4, tm8, tm16, tm32, tm40, tm256, tm4096, tm65536, td2, td8, td16, td32, td64, td128, td256, w64_eq, decide_eq_true_eq, decide_eq_false_iff_not, not_and, Int.not_le, Int.not_lt] at *; omega))) (by dsimp only; (first | omega | ((simp (disch := omega) only [w64_id, w64u_id, Int.tmod_eq_emod_of_nonneg, Int.tdiv_eq_ediv_of_nonneg]); omega) | (simp (disch := omega) only [w64_id, w64u_id, Int.tmod_eq_emod_of_nonneg, Int.tdiv_eq_ediv_of_nonneg]) | (simp only [tm2, tm4, tm8, tm16, tm32, tm40, tm256, tm4096, tm65536, td2, td8, td16, td32, td64, td128, td256, w64_eq, decide_eq_true_eq, decide_eq_false_iff_not, not_and, Int.not_le, Int.not_lt] at *; omega)))) fun r2 hr2 => T.ret (hr2.set_sp ?_)
  dsimp only
  (first | omega | ((simp (disch := omega) only [w64_id, w64u_id, Int.tmod_eq_emod_of_nonneg, Int.tdiv_eq_ediv_of_nonneg]); omega) | (simp (disch := omega) only [w64_id, w64u_id, Int.tmod_eq_emod_of_nonneg, Int.tdiv_eq_ediv_of_nonneg]) | (simp only [tm2, tm4, tm8, tm16, tm32, tm40, tm256, tm4096, tm65536, td2, td8, td16, td32, td64, td128, td256, w64_eq, decide_eq_true_eq, decide_eq_false_iff_not, not_and, Int.not_le, Int.not_lt] at *; omega))

theorem F76_t (K : Nat) (w : WT) (h : WInv w) (v : Int) (hv : 0 ≤ v ∧ v ≤ 65535) : T (F76 K (v, w)) fun r => WInv r := by
  unfold F76
  exact T.bind (F75_t K w h _ h.pc) fun r hr => T.ret (hr.set_pc hv)

end Go.U.Try
