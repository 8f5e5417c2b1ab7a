/- The reader of drawn bytes, and the machine that is drawn: they always answer, within bounds. No condition. -/
import Derived.Test.YtaplcmgnmkfgjaaPSw
import Derived.KernelRfl
set_option linter.unusedVariables false
set_option linter.unusedSimpArgs false
set_option linter.unusedSectionVars false
namespace Go.U.Try
open Go Go.U
set_option linter.unusedVariables false
set_option linter.unusedSimpArgs false
set_option maxRecDepth 20000
set_option maxHeartbeats 1000000

/-- A reader in order: bytes, a place within. -/
def RdOk (r : List Int × Int) : Prop := (∀ v ∈ r.1, 0 ≤ v ∧ v ≤ 255) ∧ r.1.length ≤ 1048576 ∧ 0 ≤ r.2 ∧ r.2 ≤ 1048576

theorem F39_t (K : Nat) (r : List Int × Int) (h : RdOk r) : T (F39 K r) fun v => (0 ≤ v.1 ∧ v.1 ≤ 255) ∧ RdOk v.2 := by
  obtain ⟨hb, hl, h0, h1⟩ := h
  unfold F39
  refine T.br (fun _ => T.ret ⟨by dsimp only; omega, hb, hl, h0, h1⟩) fun g => ?_
  have g' := of_decide_eq_false g
  have e1 : w64 (r.2 + 1) = r.2 + 1 := w64_id (by omega) (by omega)
  have e2 : w64 (r.2 + 1 - 1) = r.2 := by rw [w64_id (by omega) (by omega)]; omega
  rw [e1, e2]
  refine T.nth h0 (by omega) fun v hv _ => T.ret ⟨?_, hb, hl, by dsimp only; omega, by dsimp only; omega⟩
  have := hb v hv
  dsimp only
  rw [w64_id (by omega) (by omega)]
  exact this

theorem F23_t (K : Nat) (n : Int) (r : List Int × Int) (h : RdOk r) (hn : 1 ≤ n) (hn' : n ≤ 65536) : T (F23 K (n, r)) fun v => (0 ≤ v.1 ∧ v.1 < n) ∧ RdOk v.2 := by
  unfold F23
  refine T.br (fun _ => T.ret ⟨by dsimp only; omega, h⟩) fun g => T.br (fun _ => ?_) fun _ => ?_
  · refine T.bind (F39_t K r h) fun v hv => T.guard (nd0 (by dsimp only; omega)) (T.ret ⟨⟨Int.tmod_nonneg _ hv.1.1, Int.tmod_lt_of_pos _ (by omega)⟩, hv.2⟩)
  · refine T.bind (F39_t K r h) fun v hv => T.bind (F39_t K _ hv.2) fun v2 hv2 => T.guard (nd0 (by dsimp only; omega)) (T.ret ⟨⟨Int.tmod_nonneg _ ?_, Int.tmod_lt_of_pos _ (by omega)⟩, hv2.2⟩)
    have a1 := hv.1
    have a2 := hv2.1
    (first | omega | ((simp (disch := omega) only [w64_id, w64u_id, Int.tmod_eq_emod_of_nonneg, Int.tdiv_eq_ediv_of_nonneg]); omega) | (simp (disch := omega) only [w64_id, w64u_id, Int.tmod_eq_emod_of_nonneg, Int.tdiv_eq_ediv_of_nonneg]) | (simp only [tm2, tm4, tm8, tm16, tm32, tm40, tm256, tm4096, tm65536, td2, td8, td16, td32, td64, td128, td256, w64_eq, decide_eq_true_eq, decide_eq_false_iff_not, not_and, Int.not_le, Int.not_lt] at *; omega))

theorem F27_t (K : Nat) (n : Int) (r : List Int × Int) (h : RdOk r) (hn : 1 ≤ n) (hn' : n ≤ 65536) : T (F27 K (n, r)) fun v => RdOk v.2 := by
  unfold F27
  exact T.bind (F23_t K n r h hn hn') fun v hv => T.ret hv.2

theorem F24_t (K : Nat) (r : List Int × Int) (h : RdOk r) : T (F24 K r) fun v => (0 ≤ v.1 ∧ v.1 ≤ 255) ∧ RdOk v.2 := by
  unfold F24
  refine T.bind (F27_t K 2 r h (by decide) (by decide)) fun v hv => T.br (fun _ => ?_) fun _ => ?_
  · refine T.bind (F23_t K 8 _ hv (by decide) (by decide)) fun v1 hv1 => T.guard (decide_eq_true hv1.1) (T.nthN (by have := hv1.1; simp; omega) fun x hx _ => T.ret ⟨?_, hv1.2⟩)
    simp only [List.mem_cons, List.not_mem_nil, or_false] at hx
    dsimp only
    omega
  · exact T.bind (F23_t K 256 _ hv (by decide) (by decide)) fun v1 hv1 => T.ret ⟨by have := hv1.1; omega, hv1.2⟩

theorem F55_t (K : Nat) (r : List Int × Int) (h : RdOk r) (hK : 8 < K) : T (F55 K r) fun v => RdOk v.2 := by
  obtain ⟨b, h1, h2⟩ := iter_inv (f := F55_b0 K) (fun a => 0 ≤ a.2.1 ∧ a.2.1 ≤ 8 ∧ RdOk a.2.2) (fun a => (8 - a.2.1).toNat) (fun b => RdOk b.2) (fun a ⟨g0, g1, g2⟩ => by
    by_cases g : a.2.1 < 8
    · obtain ⟨v, e, hv⟩ := F39_t K a.2.2 g2
      have e1 : w64 (a.2.1 + 1) = a.2.1 + 1 := w64_id (by omega) (by omega)
      refine .inl ⟨_, by simp only [F55_b0, branch_ite, if_pos g, e, bindO_s, e1] <;> rfl, ⟨by simp; omega, by simp; omega, hv.2⟩, by simp; omega⟩
    · exact .inr ⟨(a.1, a.2.2), by simp only [F55_b0, branch_ite, if_neg g] <;> rfl, g2⟩) K (0, 0, r) ⟨by simp, by simp, h⟩ (by simpa using hK)
  unfold F55
  exact T.eq h1 (T.ret h2)

theorem F42_t (K : Nat) (lo hi : Int) (r : List Int × Int) (h : RdOk r) (hK : 8 < K) (hlo : 0 ≤ lo) (hh : lo ≤ hi) (hi' : hi ≤ 65535) : T (F42 K (lo, hi, r)) fun v => RdOk v.2 := by
  unfold F42
  refine T.bind (F23_t K 8 r h (by decide) (by decide)) fun v hv => T.br (fun _ => T.ret hv.2) fun _ => T.br (fun _ => T.ret hv.2) fun _ => T.br (fun _ => T.ret hv.2) fun _ => ?_
  refine T.bind (F55_t K _ hv.2 hK) fun v2 hv2 => T.guard (nd0 ?_) (T.ret hv2)
  dsimp only
  have e3 : w64 (hi - lo) = hi - lo := w64_id (by omega) (by omega)
  have e4 : w64 (hi - lo + 1) = hi - lo + 1 := w64_id (by omega) (by omega)
  have e5 : w64u (hi - lo + 1) = hi - lo + 1 := w64u_id (by omega) (by omega)
  rw [e3, e4, e5]
  omega

theorem F28_t (K : Nat) (lo hi : Int) (r : List Int × Int) (h : RdOk r) (hK : 8 < K) (hlo : 0 ≤ lo) (hh : lo ≤ hi) (hi' : hi ≤ 65535) : T (F28 K (lo, hi, r)) fun v => RdOk v.2 := by
  unfold F28
  refine T.bind (F27_t K 24 r h (by decide) (by decide)) fun v hv => T.br (fun _ => ?_) fun _ => ?_
  · refine T.bind (F23_t K 4 _ hv (by decide) (by decide)) fun v1 hv1 => T.guard (decide_eq_true ⟨hv1.1.1, by have := hv1.1; simp; omega⟩) (T.nthN (by have := hv1.1; simp; omega) fun x hx _ => T.ret hv1.2)
  · exact T.bind (F42_t K lo hi _ hv hK hlo hh hi') fun v1 hv1 => T.ret hv1

def holeChk (k : Nat) (cb : Bool) (c : Nat) : Bool := match F58 (k + 40) ((c : Int), cb) with
  | some t => (F57 (k + 40) t).isSome
  | none => false
theorem holeAll (k : Nat) (cb : Bool) : (List.range 256).all (holeChk k cb) = true := by
  cases cb
  · kernel_rfl
  · kernel_rfl
theorem F58_t (k : Nat) (c : Int) (cb : Bool) (hc : 0 ≤ c ∧ c ≤ 255) : T (F58 (k + 40) (c, cb)) fun t => T (F57 (k + 40) t) fun _ => True := by
  obtain ⟨m, rfl⟩ : ∃ m : Nat, c = (m : Int) := ⟨c.toNat, by omega⟩
  have h := List.all_eq_true.1 (holeAll k cb) m (List.mem_range.2 (by omega))
  unfold holeChk at h
  split at h
  · rename_i t ht
    obtain ⟨x, hx⟩ := Option.isSome_iff_exists.1 h
    exact ⟨t, ht, x, hx, trivial⟩
  · cases h

theorem F46_t (k : Nat) (r : List Int × Int) (h : RdOk r) : T (F46 (k + 40) r) fun v => (0 ≤ v.1 ∧ v.1 ≤ 255) ∧ RdOk v.2.2.2 := by
  unfold F46
  refine T.bind (F23_t _ 256 r h (by decide) (by decide)) fun v hv => T.bind (F27_t _ 4 _ hv.2 (by decide) (by decide)) fun v1 hv1 => ?_
  have hc : 0 ≤ v.1 ∧ v.1 ≤ 255 := by have := hv.1; omega
  refine T.bind (F58_t k v.1 v1.1 hc) fun t ht => T.bind ht fun x _ => ?_
  refine T.bind (S := fun y => (0 ≤ y.1 ∧ y.1 ≤ 255) ∧ RdOk y.2.2.2.2.2.2) ?_ fun y hy => ?_
  · refine T.br (fun _ => T.bind (F23_t _ 65536 _ hv1 (by decide) (by decide)) fun z hz => T.ret ⟨hc, hz.2⟩) fun _ => ?_
    refine T.bind (S := fun y => (0 ≤ y.2.1 ∧ y.2.1 ≤ 255) ∧ RdOk y.2.2.2.2.2.2.2) ?_ fun y hy => ?_
    · exact T.br (fun _ => T.ret ⟨hc, hv1⟩) fun _ => T.ret ⟨hc, hv1⟩
    · exact T.br (fun _ => T.bind (F24_t _ _ hy.2) fun z hz => T.ret ⟨hy.1, hz.2⟩) fun _ => T.ret hy
  · refine T.bind (F27_t _ 40 _ hy.2 (by decide) (by decide)) fun z hz => T.br (fun _ => ?_) fun _ => T.ret ⟨hy.1, hz⟩
    exact T.bind (F28_t _ 0 255 _ hz (by omega) (by decide) (by decide) (by decide)) fun u hu => T.ret ⟨hy.1, hu⟩

theorem F44_t (k : Nat) (c : Int) (cb : Bool) (imm : Int) (hc : 0 ≤ c ∧ c ≤ 255) : T (F44 (k + 40) (c, cb, imm)) fun _ => True := by
  unfold F44
  refine T.bind (S := fun _ => True) ?_ fun n _ => T.br (fun _ => T.ret trivial) fun _ => ?_
  · unfold F56
    exact F18_t _ _ _ _ (fun _ => T.br nofun fun _ => T.bind (F45_t k c cb hc) fun n _ => T.ret trivial) fun g => absurd hc g
  refine T.bind (F58_t k c cb hc) fun t ht => T.bind ht fun x _ => T.br (fun _ => ?_) fun _ => ?_
  · exact F18_t _ _ _ _ (fun _ => T.ret trivial) fun _ => T.ret trivial
  · refine T.bindbr (fun _ => T.binds ?_) fun _ => T.binds ?_
    · exact T.br (fun _ => F18_t _ _ _ _ (fun _ => T.ret trivial) fun _ => T.ret trivial) fun _ => T.ret trivial
    · exact T.br (fun _ => F18_t _ _ _ _ (fun _ => T.ret trivial) fun _ => T.ret trivial) fun _ => T.ret trivial

theorem F37_t (k : Nat) (c : Int) (cb : Bool) (imm : Int) (hc : 0 ≤ c ∧ c ≤ 255) : T (F37 (k + 40) (c, cb, imm)) fun s => s.length ≤ 3 := by
  unfold F37
  refine T.bind (F44_t k c cb imm hc) fun b _ => T.br (fun _ => T.ret (by simp)) fun _ => T.br (fun _ => T.ret (by simp [toB_length])) fun _ => ?_
  refine T.bind (F45_t k c false hc) fun n _ => T.br (fun _ => T.ret (by simp [toB_length])) fun _ => T.br (fun _ => T.ret (by simp [toB_length])) fun _ => T.ret (by simp [toB_length])

theorem F38_t (k : Nat) (r : List Int × Int) (h : RdOk r) : T (F38 (k + 40) r) fun v => (0 ≤ v.1 ∧ v.1 ≤ 255) ∧ RdOk v.2.2.2 := by
  unfold F38
  refine T.bind (F46_t k r h) fun i hi => ?_
  refine T.bind (S := fun v => (∃ a, v = .inl a ∧ (0 ≤ a.1 ∧ a.1 ≤ 255) ∧ RdOk a.2.2.2) ∨ (∃ b, v = .inr b ∧ (0 ≤ b.1 ∧ b.1 ≤ 255) ∧ RdOk b.2.2.2.2.2.2)) ?_ ?_
  · refine T.bind (S := fun v => (0 ≤ v.2.1 ∧ v.2.1 ≤ 255) ∧ RdOk v.2.2.2.2.2.2.2) ?_ fun v hv => T.br (fun _ => T.ret (.inl ⟨_, rfl, hv⟩)) fun _ => T.ret (.inr ⟨_, rfl, hv⟩)
    exact T.br (fun _ => T.ret hi) fun _ => T.bind (F27_t _ 6 _ hi.2 (by decide) (by decide)) fun z hz => T.ret ⟨hi.1, hz⟩
  rintro _ (⟨a, rfl, ha⟩ | ⟨b, rfl, hb⟩)
  · exact T.csl (T.ret ha)
  refine T.csr (T.bind (F23_t _ 10 _ hb.2 (by decide) (by decide)) fun v hv => ?_)
  refine T.br (fun _ => T.bind (F24_t _ _ hv.2) fun z hz => T.ret ⟨by dsimp only; omega, hz.2⟩) fun _ => ?_
  refine T.br (fun _ => ?_) fun _ => ?_
  · refine T.bind (F23_t _ 5 _ hv.2 (by decide) (by decide)) fun v1 hv1 => T.guard (decide_eq_true hv1.1) (T.nthN (by have := hv1.1; simp; omega) fun x hx _ => T.ret ⟨by dsimp only; omega, hv1.2⟩)
  refine T.br (fun _ => T.ret ⟨by dsimp only; omega, hv.2⟩) fun _ => T.br (fun _ => T.ret ⟨by dsimp only; omega, hv.2⟩) fun _ => ?_
  refine T.br (fun _ => ?_) fun _ => ?_
  · refine T.bind (F23_t _ 6 _ hv.2 (by decide) (by decide)) fun v1 hv1 => T.guard (decide_eq_true hv1.1) (T.nthN (by have := hv1.1; simp; omega) fun x hx _ => T.ret ⟨by dsimp only; omega, hv1.2⟩)
  refine T.bind (S := fun y => (0 ≤ y.2.1 ∧ y.2.1 ≤ 255) ∧ RdOk y.2.2.2.2.2.2.2) ?_ fun y hy => T.br (fun _ => T.ret hy) fun _ => T.ret hy
  exact T.br (fun _ => T.ret ⟨hb.1, hv.2⟩) fun _ => T.ret ⟨hb.1, hv.2⟩

theorem F22_b1_t (k : Nat) (n kk i0 : Int) (b0 : List Int) (rd : List Int × Int) (h : RdOk rd) (hk : 0 ≤ kk ∧ kk < n ∧ n ≤ 4) (hi : 0 ≤ i0 ∧ i0 ≤ 16) (hb : (b0.length : Int) = n * 256) :
    T (iter (k + 40) (F22_b1 (k + 40)) (n, kk, kk * 256, i0, b0, rd)) fun r => r.1 = n ∧ r.2.1 = kk ∧ (r.2.2.1.length : Int) = n * 256 ∧ RdOk r.2.2.2 := by
  obtain ⟨b, h1, h2⟩ := iter_inv (f := F22_b1 (k + 40)) (fun a => a.1 = n ∧ a.2.1 = kk ∧ 0 ≤ a.2.2.2.1 ∧ a.2.2.2.1 ≤ i0 ∧ kk * 256 ≤ a.2.2.1 ∧ a.2.2.1 + 3 * a.2.2.2.1 ≤ kk * 256 + 3 * i0 ∧ (a.2.2.2.2.1.length : Int) = n * 256 ∧ RdOk a.2.2.2.2.2) (fun a => a.2.2.2.1.toNat) (fun r => r.1 = n ∧ r.2.1 = kk ∧ (r.2.2.1.length : Int) = n * 256 ∧ RdOk r.2.2.2) (fun a ⟨g1, g2, g3, g4, g5, g6, g7, g8⟩ => by
    obtain ⟨n', kk', at_, i, bb, rd'⟩ := a
    dsimp only at g1 g2 g3 g4 g5 g6 g7 g8
    subst g1 g2
    by_cases g : 0 < i
    · obtain ⟨v, e, hv⟩ := F38_t k rd' g8
      obtain ⟨s, e2, hs⟩ := F37_t k v.1 v.2.1 v.2.2.1 hv.1
      have q1 : w64 (kk' + 1) = kk' + 1 := w64_id (by omega) (by omega)
      have q2 : w64 ((kk' + 1) * 256) = (kk' + 1) * 256 := w64_id (by omega) (by omega)
      have q3 : w64 (at_ + (s.length : Int)) = at_ + (s.length : Int) := w64_id (by omega) (by omega)
      have q4 : w64 (i - 1) = i - 1 := w64_id (by omega) (by omega)
      have q5 : 0 ≤ at_ ∧ at_ ≤ (kk' + 1) * 256 ∧ (kk' + 1) * 256 ≤ (bb.length : Int) := ⟨by omega, by omega, by omega⟩
      have q6 : at_.toNat + (((kk' + 1) * 256).toNat - at_.toNat) ≤ bb.length := by omega
      refine .inl ⟨_, by simp only [F22_b1, branch_ite, if_pos g, e, e2, bindO_s, q1, q2, q3, q4, guard_dec q5, guard_dec q6] <;> rfl, ⟨rfl, rfl, by dsimp only; omega, by dsimp only; omega, by dsimp only; omega, by dsimp only; omega, ?_, hv.2⟩, by dsimp only; omega⟩
      dsimp only
      rw [List.length_append, List.length_append, List.length_take, List.length_take, List.length_drop, ofB_length]
      omega
    · exact .inr ⟨(n', kk', bb, rd'), by simp only [F22_b1, branch_ite, if_neg g], rfl, rfl, g7, g8⟩) (k + 40) (n, kk, kk * 256, i0, b0, rd) ⟨rfl, rfl, hi.1, Int.le_refl _, Int.le_refl _, Int.le_refl _, hb, h⟩ (by dsimp only; omega)
  exact ⟨b, h1, h2⟩

theorem F22_t (k : Nat) (r : List Int × Int) (h : RdOk r) : T (F22 (k + 40) r) fun v => v.1.length ≤ 1024 ∧ RdOk v.2 := by
  unfold F22
  refine T.bind (F23_t _ 3 r h (by decide) (by decide)) fun v hv => ?_
  have hv1 := hv.1
  have q1 : w64 (2 + v.1) = 2 + v.1 := w64_id (by omega) (by omega)
  have q2 : w64 ((2 + v.1) * 256) = (2 + v.1) * 256 := w64_id (by omega) (by omega)
  rw [q1, q2]
  refine T.guard (decide_eq_true ⟨rfl, by omega, by omega⟩) ?_
  generalize hn : 2 + v.1 = n
  obtain ⟨b, h1, h2⟩ := iter_inv (f := F22_b0 (k + 40)) (fun a => a.1 = n ∧ 0 ≤ a.2.1 ∧ a.2.1 ≤ n ∧ (a.2.2.1.length : Int) = n * 256 ∧ RdOk a.2.2.2) (fun a => (n - a.2.1).toNat) (fun r => (r.1.length : Int) = n * 256 ∧ RdOk r.2) (fun a ⟨g1, g2, g3, g4, g5⟩ => by
    obtain ⟨n', kk, bb, rd⟩ := a
    dsimp only at g1 g2 g3 g4 g5
    subst g1
    by_cases g : kk < n'
    · obtain ⟨u, e, hu⟩ := F23_t (k + 40) 16 rd g5 (by decide) (by decide)
      have hu1 := hu.1
      have q3 : w64 (kk * 256) = kk * 256 := w64_id (by omega) (by omega)
      have q4 : w64 (1 + u.1) = 1 + u.1 := w64_id (by omega) (by omega)
      obtain ⟨z, e2, z1, z2, z3, z4⟩ := F22_b1_t k n' kk (1 + u.1) bb u.2 hu.2 ⟨g2, g, by omega⟩ (by omega) g4
      have q5 : w64 (z.2.1 + 1) = kk + 1 := by rw [z2]; exact w64_id (by omega) (by omega)
      exact .inl ⟨(z.1, w64 (z.2.1 + 1), z.2.2), by simp only [F22_b0, branch_ite, if_pos g, e, bindO_s, q3, q4, e2], ⟨z1, by dsimp only; omega, by dsimp only; omega, z3, z4⟩, by dsimp only; omega⟩
    · exact .inr ⟨(bb, rd), by simp only [F22_b0, branch_ite, if_neg g], g4, g5⟩) (k + 40) (n, 0, List.replicate (n * 256).toNat 0, v.2) ⟨rfl, Int.le_refl 0, by dsimp only; omega, by dsimp only; rw [List.length_replicate]; omega, hv.2⟩ (by dsimp only; omega)
  refine T.eq h1 (T.bind (F27_t _ 30 _ h2.2 (by decide) (by decide)) fun x hx => T.br (fun _ => ?_) fun _ => T.ret ⟨by dsimp only; rw [toB_length]; omega, hx⟩)
  refine T.guard (decide_eq_true ⟨by decide, by omega⟩) (T.guard (decide_eq_true (by omega)) (T.ret ⟨?_, hx⟩))
  dsimp only
  rw [toB_length, List.length_take]
  omega

theorem F21_t (K : Nat) (rom : List UInt8) (kind : Int) (h : rom.length ≤ 1024) : T (F21 K (rom, kind)) fun v => MSm (v.1, v.2.1, v.2.2.1, v.2.2.2.1, v.2.2.2.2.1, v.2.2.2.2.2.1, v.2.2.2.2.2.2.1, v.2.2.2.2.2.2.2.1, v.2.2.2.2.2.2.2.2.1, v.2.2.2.2.2.2.2.2.2.1, v.2.2.2.2.2.2.2.2.2.2.1, v.2.2.2.2.2.2.2.2.2.2.2.1, v.2.2.2.2.2.2.2.2.2.2.2.2.1, v.2.2.2.2.2.2.2.2.2.2.2.2.2.1, v.2.2.2.2.2.2.2.2.2.2.2.2.2.2.1, v.2.2.2.2.2.2.2.2.2.2.2.2.2.2.2.1, v.2.2.2.2.2.2.2.2.2.2.2.2.2.2.2.2.1, v.2.2.2.2.2.2.2.2.2.2.2.2.2.2.2.2.2.1, v.2.2.2.2.2.2.2.2.2.2.2.2.2.2.2.2.2.2.1, v.2.2.2.2.2.2.2.2.2.2.2.2.2.2.2.2.2.2.2.1, v.2.2.2.2.2.2.2.2.2.2.2.2.2.2.2.2.2.2.2.2.1, v.2.2.2.2.2.2.2.2.2.2.2.2.2.2.2.2.2.2.2.2.2.1, v.2.2.2.2.2.2.2.2.2.2.2.2.2.2.2.2.2.2.2.2.2.2.1) := by
  unfold F21
  refine T.bind (S := fun v => v.1.length ≤ 1024) ?_ fun v hv => T.br (fun _ => T.ret ⟨Nat.zero_le _, Nat.zero_le _⟩) fun _ => T.ret ⟨by unfold maxLen; exact Nat.le_trans hv (by decide), Nat.zero_le _⟩
  unfold F36
  rw [F17_eq K rom kind 1 _ 0 false 0 (by unfold maxLen; exact Nat.le_trans h (by decide))]
  exact T.binds (T.br (fun _ => T.ret (Nat.zero_le _)) fun _ => T.ret h)

theorem F25_t (K : Nat) (r : List Int × Int) (h : RdOk r) : T (F25 K r) fun v => RdOk v.2 := by
  unfold F25
  exact T.bind (F23_t K 16 r h (by decide) (by decide)) fun v hv => T.ret hv.2

theorem F11_t (k : Nat) (most : Int) (r : List Int × Int) (h : RdOk r) (hm : 0 ≤ most ∧ most ≤ 100) : T (F11 (k + 600) (most, r)) fun v => MSm (v.1, v.2.1, v.2.2.1, v.2.2.2.1, v.2.2.2.2.1, v.2.2.2.2.2.1, v.2.2.2.2.2.2.1, v.2.2.2.2.2.2.2.1, v.2.2.2.2.2.2.2.2.1, v.2.2.2.2.2.2.2.2.2.1, v.2.2.2.2.2.2.2.2.2.2.1, v.2.2.2.2.2.2.2.2.2.2.2.1, v.2.2.2.2.2.2.2.2.2.2.2.2.1, v.2.2.2.2.2.2.2.2.2.2.2.2.2.1, v.2.2.2.2.2.2.2.2.2.2.2.2.2.2.1, v.2.2.2.2.2.2.2.2.2.2.2.2.2.2.2.1, v.2.2.2.2.2.2.2.2.2.2.2.2.2.2.2.2.1, v.2.2.2.2.2.2.2.2.2.2.2.2.2.2.2.2.2.1, v.2.2.2.2.2.2.2.2.2.2.2.2.2.2.2.2.2.2.1, v.2.2.2.2.2.2.2.2.2.2.2.2.2.2.2.2.2.2.2.1, v.2.2.2.2.2.2.2.2.2.2.2.2.2.2.2.2.2.2.2.2.1, v.2.2.2.2.2.2.2.2.2.2.2.2.2.2.2.2.2.2.2.2.2.1, v.2.2.2.2.2.2.2.2.2.2.2.2.2.2.2.2.2.2.2.2.2.2.1) ∧ RdOk v.2.2.2.2.2.2.2.2.2.2.2.2.2.2.2.2.2.2.2.2.2.2.2 := by
  unfold F11
  refine T.bind (F22_t (k + 560) r h) fun v0 h0 => T.bind (F23_t _ 3 _ h0.2 (by decide) (by decide)) fun v1 h1 => T.bind (F21_t _ v0.1 v1.1 h0.1) fun v2 h2 => ?_
  refine T.br (fun _ => T.ret ⟨h2, h1.2⟩) fun _ => ?_
  refine T.bind (F24_t _ _ h1.2) fun v3 h3 => T.bind (F25_t _ _ h3.2) fun v4 h4 => T.bind (F24_t _ _ h4) fun v5 h5 => T.bind (F24_t _ _ h5.2) fun v6 h6 => ?_
  refine T.bind (F23_t _ 5 _ h6.2 (by decide) (by decide)) fun v7 h7 => T.guard (decide_eq_true h7.1) (T.nthN (by have := h7.1; simp; omega) fun v8 _ _ => ?_)
  refine T.bind (F23_t _ 5 _ h7.2 (by decide) (by decide)) fun v9 h9 => T.guard (decide_eq_true h9.1) (T.nthN (by have := h9.1; simp; omega) fun v10 _ _ => ?_)
  have e1 : w64 (most + 1) = most + 1 := w64_id (by omega) (by omega)
  dsimp only
  rw [e1]
  refine T.bind (F23_t _ (most + 1) _ h9.2 (by omega) (by omega)) fun v11 h11 => ?_
  refine T.bind (F26_t k (v3.1, v4.1, v5.1, v2.2.2.2.1, v2.2.2.2.2.1, v2.2.2.2.2.2.1, v8, v6.1, v10, v2.2.2.2.2.2.2.2.2.2.1, v2.2.2.2.2.2.2.2.2.2.2.1, v2.2.2.2.2.2.2.2.2.2.2.2.1, v2.2.2.2.2.2.2.2.2.2.2.2.2.1, v2.2.2.2.2.2.2.2.2.2.2.2.2.2.1, v2.2.2.2.2.2.2.2.2.2.2.2.2.2.2.1, v2.2.2.2.2.2.2.2.2.2.2.2.2.2.2.2.1, v2.2.2.2.2.2.2.2.2.2.2.2.2.2.2.2.2.1, v2.2.2.2.2.2.2.2.2.2.2.2.2.2.2.2.2.2.1, v2.2.2.2.2.2.2.2.2.2.2.2.2.2.2.2.2.2.2.1, v2.2.2.2.2.2.2.2.2.2.2.2.2.2.2.2.2.2.2.2.1, v2.2.2.2.2.2.2.2.2.2.2.2.2.2.2.2.2.2.2.2.2.1, v2.2.2.2.2.2.2.2.2.2.2.2.2.2.2.2.2.2.2.2.2.2.1, v2.2.2.2.2.2.2.2.2.2.2.2.2.2.2.2.2.2.2.2.2.2.2.1) v11.1 h2) fun v12 h12 => ?_
  have hs : MSm (v12.1, v12.2.1, v12.2.2.1, v12.2.2.2.1, v12.2.2.2.2.1, v12.2.2.2.2.2.1, v12.2.2.2.2.2.2.1, v12.2.2.2.2.2.2.2.1, v12.2.2.2.2.2.2.2.2.1, v12.2.2.2.2.2.2.2.2.2.1, v12.2.2.2.2.2.2.2.2.2.2.1, v12.2.2.2.2.2.2.2.2.2.2.2.1, v12.2.2.2.2.2.2.2.2.2.2.2.2.1, v12.2.2.2.2.2.2.2.2.2.2.2.2.2.1, v12.2.2.2.2.2.2.2.2.2.2.2.2.2.2.1, v12.2.2.2.2.2.2.2.2.2.2.2.2.2.2.2.1, v12.2.2.2.2.2.2.2.2.2.2.2.2.2.2.2.2.1, v12.2.2.2.2.2.2.2.2.2.2.2.2.2.2.2.2.2.1, v12.2.2.2.2.2.2.2.2.2.2.2.2.2.2.2.2.2.2.1, v12.2.2.2.2.2.2.2.2.2.2.2.2.2.2.2.2.2.2.2.1, v12.2.2.2.2.2.2.2.2.2.2.2.2.2.2.2.2.2.2.2.2.1, v12.2.2.2.2.2.2.2.2.2.2.2.2.2.2.2.2.2.2.2.2.2.1, v12.2.2.2.2.2.2.2.2.2.2.2.2.2.2.2.2.2.2.2.2.2.2.1) := by
    rcases h12 with h12 | h12
    · exact h12.2
    · exact WInv.sm (m := (v12.1, v12.2.1, v12.2.2.1, v12.2.2.2.1, v12.2.2.2.2.1, v12.2.2.2.2.2.1, v12.2.2.2.2.2.2.1, v12.2.2.2.2.2.2.2.1, v12.2.2.2.2.2.2.2.2.1, v12.2.2.2.2.2.2.2.2.2.1, v12.2.2.2.2.2.2.2.2.2.2.1, v12.2.2.2.2.2.2.2.2.2.2.2.1, v12.2.2.2.2.2.2.2.2.2.2.2.2.1, v12.2.2.2.2.2.2.2.2.2.2.2.2.2.1, v12.2.2.2.2.2.2.2.2.2.2.2.2.2.2.1, v12.2.2.2.2.2.2.2.2.2.2.2.2.2.2.2.1, v12.2.2.2.2.2.2.2.2.2.2.2.2.2.2.2.2.1, v12.2.2.2.2.2.2.2.2.2.2.2.2.2.2.2.2.2.1, v12.2.2.2.2.2.2.2.2.2.2.2.2.2.2.2.2.2.2.1, v12.2.2.2.2.2.2.2.2.2.2.2.2.2.2.2.2.2.2.2.1, v12.2.2.2.2.2.2.2.2.2.2.2.2.2.2.2.2.2.2.2.2.1, v12.2.2.2.2.2.2.2.2.2.2.2.2.2.2.2.2.2.2.2.2.2.1, v12.2.2.2.2.2.2.2.2.2.2.2.2.2.2.2.2.2.2.2.2.2.2.1)) h12.1
  refine T.bind (S := fun v => MSm (v.1, v.2.1, v.2.2.1, v.2.2.2.1, v.2.2.2.2.1, v.2.2.2.2.2.1, v.2.2.2.2.2.2.1, v.2.2.2.2.2.2.2.1, v.2.2.2.2.2.2.2.2.1, v.2.2.2.2.2.2.2.2.2.1, v.2.2.2.2.2.2.2.2.2.2.1, v.2.2.2.2.2.2.2.2.2.2.2.1, v.2.2.2.2.2.2.2.2.2.2.2.2.1, v.2.2.2.2.2.2.2.2.2.2.2.2.2.1, v.2.2.2.2.2.2.2.2.2.2.2.2.2.2.1, v.2.2.2.2.2.2.2.2.2.2.2.2.2.2.2.1, v.2.2.2.2.2.2.2.2.2.2.2.2.2.2.2.2.1, v.2.2.2.2.2.2.2.2.2.2.2.2.2.2.2.2.2.1, v.2.2.2.2.2.2.2.2.2.2.2.2.2.2.2.2.2.2.1, v.2.2.2.2.2.2.2.2.2.2.2.2.2.2.2.2.2.2.2.1, v.2.2.2.2.2.2.2.2.2.2.2.2.2.2.2.2.2.2.2.2.1, v.2.2.2.2.2.2.2.2.2.2.2.2.2.2.2.2.2.2.2.2.2.1, v.2.2.2.2.2.2.2.2.2.2.2.2.2.2.2.2.2.2.2.2.2.2.1) ∧ RdOk v.2.2.2.2.2.2.2.2.2.2.2.2.2.2.2.2.2.2.2.2.2.2.2.2.2.2.2.2.2.2.2.2.2.2.2.2.2.2.2.2.2.2.2.2.2.2) ?_ fun v16 h16 => ?_
  · refine T.bind (F27_t _ 4 _ h11.2 (by decide) (by decide)) fun v13 h13 => T.br (fun _ => ?_) fun _ => T.ret ⟨hs, h13⟩
    exact T.bind (F23_t _ 4 _ h13 (by decide) (by decide)) fun v14 h14 => T.guard (decide_eq_true h14.1) (T.nthN (by have := h14.1; simp; omega) fun v15 _ _ => T.ret ⟨hs, h14.2⟩)
  refine T.bind (F23_t _ 30 _ h16.2 (by decide) (by decide)) fun v17 h17 => T.br (fun _ => ?_) fun _ => T.br (fun _ => ?_) fun _ => T.ret ⟨h16.1, h17.2⟩
  · exact T.bind (F28_t _ 0 255 _ h17.2 (by omega) (by decide) (by decide) (by decide)) fun v18 h18 => T.ret ⟨h16.1, h18⟩
  · exact T.bind (F28_t _ 0 65535 _ h17.2 (by omega) (by decide) (by decide) (by decide)) fun v18 h18 => T.ret ⟨h16.1, h18⟩

theorem F5_t (k : Nat) (x : List Int) (hb : ∀ v ∈ x, 0 ≤ v ∧ v ≤ 255) (hl : x.length ≤ 1048576) : T (F5 (k + 600) x) MSm := by
  unfold F5
  refine T.binds (T.bind (F11_t k 10 (x, 0) ⟨hb, hl, by dsimp only; omega, by dsimp only; omega⟩ (by decide)) fun v hv => T.ret hv.1)

end Go.U.Try
