/- A part of the proof. No condition. -/
import Derived.Test.YticcaekjfhgpcaaGreatDoorU1
import Derived.Laws.BitsLemmas
import Derived.KernelRfl
import Derived.Test.YticcaekjfhgpcaaGreatDoorP4
import Derived.Test.YticcaekjfhgpcaaGreatDoorVHk
set_option linter.unusedVariables false
set_option linter.unusedSimpArgs false
set_option linter.unusedSectionVars false
namespace Go.U
open Go
end Go.U
namespace Go.U
open Go
def T {ρ : Type} (x : Option ρ) (Q : ρ → Prop) : Prop := ∃ r, x = some r ∧ Q r
section
variable {α β ρ : Type} {Q R : ρ → Prop}
theorem T.ret {r : ρ} (h : Q r) : T (some r) Q := ⟨r, rfl, h⟩
theorem T.mono {x : Option ρ} (h : T x R) (hq : ∀ r, R r → Q r) : T x Q := let ⟨r, e, hr⟩ := h; ⟨r, e, hq r hr⟩
theorem T.bind {x : Option α} {k : α → Option ρ} {S : α → Prop} (h : T x S) (hk : ∀ r, S r → T (k r) Q) : T (bindO x k) Q := by
  obtain ⟨r, rfl, hr⟩ := h; exact hk r hr
theorem T.binds {x : α} {k : α → Option ρ} (h : T (k x) Q) : T (bindO (some x) k) Q := h
theorem T.eq {x : Option α} {y : α} {k : α → Option ρ} (h : x = some y) (hk : T (k y) Q) : T (bindO x k) Q := by subst h; exact hk
theorem T.bindbr {c : Bool} {a b : Option α} {k : α → Option ρ} (h1 : c = true → T (bindO a k) Q) (h2 : c = false → T (bindO b k) Q) : T (bindO (branch c a b) k) Q := by
  cases c
  · exact h2 rfl
  · exact h1 rfl
theorem T.bindbind {γ : Type} {x : Option γ} {f : γ → Option α} {k : α → Option ρ} (h : T (bindO x fun y => bindO (f y) k) Q) : T (bindO (bindO x f) k) Q := by
  cases x <;> exact h
theorem T.br {c : Bool} {a b : Option ρ} (h1 : c = true → T a Q) (h2 : c = false → T b Q) : T (branch c a b) Q := by
  cases c
  · exact h2 rfl
  · exact h1 rfl
theorem T.guard {c : Bool} {k : Option ρ} (h : c = true) (hk : T k Q) : T (guard c k) Q := by subst h; exact hk
theorem T.nthN {xs : List α} {n : Nat} {k : α → Option ρ} (h : n < xs.length) (hk : ∀ v, v ∈ xs → xs[n]? = some v → T (k v) Q) : T (nthN xs n k) Q := by
  have e := List.getElem?_eq_getElem h
  rw [nthN_s e]
  exact hk _ (List.getElem_mem h) e
theorem T.nth {xs : List α} {n : Int} {k : α → Option ρ} (h0 : 0 ≤ n) (h : n < (xs.length : Int)) (hk : ∀ v, v ∈ xs → xs[n.toNat]? = some v → T (k v) Q) : T (nth xs n k) Q := by
  have hl : n.toNat < xs.length := by omega
  have e := List.getElem?_eq_getElem hl
  rw [nth_z h0 e]
  exact hk _ (List.getElem_mem hl) e
theorem T.csr {x : β} {f : α → Option ρ} {g : β → Option ρ} (h : T (g x) Q) : T (csO (.inr x) f g) Q := h
theorem T.cs {v : α ⊕ β} {f : α → Option ρ} {g : β → Option ρ} (h1 : ∀ a, v = .inl a → T (f a) Q) (h2 : ∀ b, v = .inr b → T (g b) Q) : T (csO v f g) Q := by
  cases v
  · exact h1 _ rfl
  · exact h2 _ rfl
end
end Go.U
namespace Go.U.Tryz
open Go Go.U
set_option maxRecDepth 20000
set_option maxHeartbeats 1000000
theorem iter_go {α β : Type} {n : Nat} {f : α → Option (α ⊕ β)} {a a' : α} (h : f a = some (.inl a')) : iter (n + 1) f a = iter n f a' := by simp only [iter, h]
theorem iter_end {α β : Type} {n : Nat} {f : α → Option (α ⊕ β)} {a : α} {b : β} (h : f a = some (.inr b)) : iter (n + 1) f a = some b := by simp only [iter, h]
theorem shr8 (v : Int) : shrI .i64 v 8 = v / 256 := by
  show v.fdiv (2 ^ (min (8 : Int).toNat 64)) = _
  rw [show (min (8 : Int).toNat 64) = 8 from by decide, Int.fdiv_eq_ediv_of_nonneg _ (by decide)]
  rfl
def inR (n a b : Int) : Bool := decide (a ≤ n ∧ n ≤ b)
theorem f38i (K : Nat) (n a b : Int) : F38 K (n, a, b) = some (inR n a b) := by
  rw [F38_eq]; unfold inR; rw [Bool.decide_and]
theorem f91i (K : Nat) (n a b : Int) : F91 K (n, a, b) = some (inR n a b) := by
  rw [F91_eq]; unfold inR; rw [Bool.decide_and]
theorem f67i (K : Nat) (n : Int) : F67 K n = some (inR n 0 65535) := by
  unfold F67; rw [f91i]; rfl
theorem f59i (K : Nat) (n : Int) : F59 K n = some (inR n 0 255) := by
  unfold F59; rw [f91i]; rfl
def dgs : List UInt8 := [48, 49, 50, 51, 52, 53, 54, 55, 56, 57, 97, 98, 99, 100, 101, 102, 103, 104, 105, 106, 107, 108, 109, 110, 111, 112, 113, 114, 115, 116, 117, 118, 119, 120, 121, 122]
def dg (n : Int) : UInt8 := dgs.getD n.toNat 0
def hd (n : Int) : UInt8 := Lib.upperB (dg n)
theorem nth_dg {ρ : Type} {k : UInt8 → Option ρ} (n : Int) (h : 0 ≤ n ∧ n < 16) : nth dgs n k = k (dg n) := by
  obtain ⟨m, rfl⟩ : ∃ m : Nat, n = (m : Int) := ⟨n.toNat, by omega⟩
  have hl : m < dgs.length := by show m < 36; omega
  have e : dgs[m]? = some (dg (m : Int)) := by
    unfold dg
    rw [Int.toNat_natCast, List.getD_eq_getElem?_getD, List.getElem?_eq_getElem hl]; rfl
  exact nth_s e
theorem andu15 (u : Int) (h : 0 ≤ u ∧ u ≤ 65535) : bits .and .u64 u 15 = u % 16 := by
  obtain ⟨n, rfl⟩ : ∃ n : Nat, u = (n : Int) := ⟨u.toNat, by omega⟩
  have e1 : (BitVec.ofInt 64 (n : Int)).toNat = n := by rw [BitVec.toNat_ofInt]; omega
  have e2 : (BitVec.ofInt 64 (15 : Int)).toNat = 2 ^ 4 - 1 := by decide
  show IntKind.u64.wrap ((BitVec.ofInt 64 (n : Int) &&& BitVec.ofInt 64 15).toNat : Nat) = _
  rw [BitVec.toNat_and, e1, e2, Nat.and_two_pow_sub_one_eq_mod, IntKind.wrap_u64]
  omega
theorem shru4 (u : Int) : shrI .u64 u 4 = u / 16 := by
  show u.fdiv (2 ^ (min (4 : Int).toNat 64)) = _
  rw [show (min (4 : Int).toNat 64) = 4 from by decide, Int.fdiv_eq_ediv_of_nonneg _ (by decide)]
  rfl
def z65 : List Int := [0, 0, 0, 0, 0, 0, 0, 0, 0, 0, 0, 0, 0, 0, 0, 0, 0, 0, 0, 0, 0, 0, 0, 0, 0, 0, 0, 0, 0, 0, 0, 0, 0, 0, 0, 0, 0, 0, 0, 0, 0, 0, 0, 0, 0, 0, 0, 0, 0, 0, 0, 0, 0, 0, 0, 0, 0, 0, 0, 0, 0, 0, 0, 0, 0]
theorem hx_go (K : Nat) (u : Int) (j : Nat) (buf : List Int) (hu : 16 ≤ u ∧ u ≤ 65535) (hj : j < 65) (hb : buf.length = 65) :
    F159h_b2 K ([], u, false, false, [], [], ((j + 1 : Nat) : Int), 4, 16, 15, buf) = some (.inl ([], u / 16, false, false, [], [], (j : Int), 4, 16, 15, buf.set (0 + j) ((dg (u % 16)).toNat : Int))) := by
  have e1 : w64 (((j + 1 : Nat) : Int) - 1) = (j : Int) := by rw [w64_id (by omega) (by omega)]; omega
  have t : T (F159h_b2 K ([], u, false, false, [], [], ((j + 1 : Nat) : Int), 4, 16, 15, buf)) (fun r => r = .inl ([], u / 16, false, false, [], [], (j : Int), 4, 16, 15, buf.set (0 + j) ((dg (u % 16)).toNat : Int))) := by
    unfold F159h_b2
    refine T.br (fun _ => ?_) fun g => absurd hu.1 (of_decide_eq_false g)
    show T (nth dgs (bits .and .u64 u 15) _) _
    rw [andu15 u ⟨by omega, hu.2⟩, nth_dg _ ⟨by omega, by omega⟩]
    dsimp only
    rw [e1, shru4, Int.toNat_natCast]
    refine T.guard (decide_eq_true ⟨by omega, by omega⟩) (T.nthN (by omega) fun v1 _ _ => T.guard rfl (T.ret rfl))
  obtain ⟨r, er, rfl⟩ := t
  exact er
theorem hx_end (K : Nat) (u i : Int) (buf : List Int) (hu : u < 16) :
    F159h_b2 K ([], u, false, false, [], [], i, 4, 16, 15, buf) = some (.inr ([], u, false, false, [], [], i, buf)) := by
  show branch (decide (16 ≤ u)) _ _ = _
  rw [decide_eq_false (by omega)]; rfl
theorem hx_out (K : Nat) (v u : Int) (j : Nat) (buf : List Int) (hu : 0 ≤ u ∧ u < 16) (hj : j < 65) (hb : buf.length = 65)
    (it : iter K (F159h_b2 K) ([], v, false, false, [], [], 65, 4, 16, 15, z65) = some ([], u, false, false, [], [], ((j + 1 : Nat) : Int), buf)) :
    F159h K ([], v, 16, false, false) = some ([], toB (List.take (65 - j) (List.drop j (buf.set (0 + j) ((dg u).toNat : Int))))) := by
  have e1 : w64 (((j + 1 : Nat) : Int) - 1) = (j : Int) := by rw [w64_id (by omega) (by omega)]; omega
  have e2 : F184 K 16 = some true := by kernel_rfl
  have e3 : F185 K 16 = some 4 := by kernel_rfl
  have t : T (F159h K ([], v, 16, false, false)) (fun r => r = ([], toB (List.take (65 - j) (List.drop j (buf.set (0 + j) ((dg u).toNat : Int)))))) := by
    unfold F159h
    refine T.br nofun fun _ => T.eq e2 (T.br (fun _ => T.eq e3 (T.eq it ?_)) nofun)
    show T (nth dgs u _) _
    rw [nth_dg u hu]
    dsimp only
    rw [e1, Int.toNat_natCast]
    refine T.guard (decide_eq_true ⟨by omega, by omega⟩) (T.nthN (by omega) fun v1 _ _ => T.br nofun fun _ => T.br nofun fun _ => ?_)
    have hl : (buf.set (0 + j) ((dg u).toNat : Int)).length = 65 := by rw [List.length_set]; exact hb
    exact T.guard (decide_eq_true hl.symm) (T.guard (decide_eq_true ⟨by omega, by omega⟩) (T.guard (decide_eq_true (by omega)) (T.ret rfl)))
  obtain ⟨r, er, rfl⟩ := t
  exact er
theorem rtb (b : UInt8) : UInt8.ofNat ((b.toNat : Int)).toNat = b := by simp
theorem hx1 (k : Nat) (v : Int) (h : 0 ≤ v ∧ v < 16) : F159h (k + 40) ([], v, 16, false, false) = some ([], [dg v]) := by
  have q := hx_out (k + 40) v v 64 z65 h (by omega) rfl (iter_end (n := k + 39) (hx_end _ v _ z65 h.2))
  rw [q]
  show some ([], [UInt8.ofNat (((dg v).toNat : Int)).toNat]) = _
  rw [rtb]
theorem hx2 (k : Nat) (v : Int) (h : 16 ≤ v ∧ v < 256) : F159h (k + 40) ([], v, 16, false, false) = some ([], [dg (v / 16), dg (v % 16)]) := by
  have q := hx_out (k + 40) v (v / 16) 63 _ ⟨by omega, by omega⟩ (by omega) (by rw [List.length_set]; rfl) ((iter_go (n := k + 39) (hx_go _ v 64 z65 ⟨h.1, by omega⟩ (by omega) rfl)).trans (iter_end (n := k + 38) (hx_end _ (v / 16) _ _ (by omega))))
  rw [q]
  show some ([], [UInt8.ofNat (((dg (v / 16)).toNat : Int)).toNat, UInt8.ofNat (((dg (v % 16)).toNat : Int)).toNat]) = _
  rw [rtb, rtb]
theorem hx3 (k : Nat) (v : Int) (h : 256 ≤ v ∧ v < 4096) : F159h (k + 40) ([], v, 16, false, false) = some ([], [dg (v / 16 / 16), dg (v / 16 % 16), dg (v % 16)]) := by
  have q := hx_out (k + 40) v (v / 16 / 16) 62 _ ⟨by omega, by omega⟩ (by omega) (by rw [List.length_set, List.length_set]; rfl) ((iter_go (n := k + 39) (hx_go _ v 64 z65 ⟨by omega, by omega⟩ (by omega) rfl)).trans ((iter_go (n := k + 38) (hx_go _ (v / 16) 63 _ ⟨by omega, by omega⟩ (by omega) (by rw [List.length_set]; rfl))).trans (iter_end (n := k + 37) (hx_end _ (v / 16 / 16) _ _ (by omega)))))
  rw [q]
  show some ([], [UInt8.ofNat (((dg (v / 16 / 16)).toNat : Int)).toNat, UInt8.ofNat (((dg (v / 16 % 16)).toNat : Int)).toNat, UInt8.ofNat (((dg (v % 16)).toNat : Int)).toNat]) = _
  rw [rtb, rtb, rtb]
theorem hx4 (k : Nat) (v : Int) (h : 4096 ≤ v ∧ v < 65536) : F159h (k + 40) ([], v, 16, false, false) = some ([], [dg (v / 16 / 16 / 16), dg (v / 16 / 16 % 16), dg (v / 16 % 16), dg (v % 16)]) := by
  have q := hx_out (k + 40) v (v / 16 / 16 / 16) 61 _ ⟨by omega, by omega⟩ (by omega) (by rw [List.length_set, List.length_set, List.length_set]; rfl) ((iter_go (n := k + 39) (hx_go _ v 64 z65 ⟨by omega, by omega⟩ (by omega) rfl)).trans ((iter_go (n := k + 38) (hx_go _ (v / 16) 63 _ ⟨by omega, by omega⟩ (by omega) (by rw [List.length_set]; rfl))).trans ((iter_go (n := k + 37) (hx_go _ (v / 16 / 16) 62 _ ⟨by omega, by omega⟩ (by omega) (by rw [List.length_set, List.length_set]; rfl))).trans (iter_end (n := k + 36) (hx_end _ (v / 16 / 16 / 16) _ _ (by omega))))))
  rw [q]
  show some ([], [UInt8.ofNat (((dg (v / 16 / 16 / 16)).toNat : Int)).toNat, UInt8.ofNat (((dg (v / 16 / 16 % 16)).toNat : Int)).toNat, UInt8.ofNat (((dg (v / 16 % 16)).toNat : Int)).toNat, UInt8.ofNat (((dg (v % 16)).toNat : Int)).toNat]) = _
  rw [rtb, rtb, rtb, rtb]
theorem F103_h (K : Nat) (v : Int) (l : List UInt8) (hv : 0 ≤ v ∧ v ≤ 65535) (e : F159h K ([], v, 16, false, false) = some ([], l)) : F103h K (v, 16) = some l := by
  have e1 : w64u v = v := w64u_id (by omega) (by omega)
  have e2 : decide (v < 0) = false := decide_eq_false (by omega)
  show bindO (bindO (F159h K ([], w64u v, 16, decide (v < 0), false)) _) _ = _
  rw [e1, e2, e]; rfl
theorem dg_ascii (n : Int) (h : 0 ≤ n ∧ n < 16) : (dg n).toNat < 128 := by
  obtain ⟨m, rfl⟩ : ∃ m : Nat, n = (m : Int) := ⟨n.toNat, by omega⟩
  have a : (List.range 16).all (fun i => decide ((dg (i : Int)).toNat < 128)) = true := by kernel_rfl
  exact of_decide_eq_true (List.all_eq_true.1 a m (List.mem_range.2 (by omega)))
theorem F102_of (K : Nat) (v d : Int) (l : List UInt8) (hv : 0 ≤ v ∧ v ≤ 65535) (e : F103h K (v, 16) = some l) (ha : ∀ b ∈ l, b.toNat < 128) (hl : l.length ≤ 4) (hd : 0 ≤ d ∧ d ≤ 4) :
    F102 K (v, d) = some (Lib.repeatL [48] (d.toNat - l.length) ++ Lib.toUpperA l) := by
  have e1 : F132 K l = some (Lib.toUpperA l) := by
    unfold F132 uppF
    rw [decide_eq_true (show l.length ≤ 140737488355328 by omega), List.all_eq_true.2 (fun b hb => decide_eq_true (ha b hb))]; rfl
  have hL : (Lib.toUpperA l).length = l.length := by unfold Lib.toUpperA; rw [List.length_map]
  have e2 : mxI 0 (w64 (d - ((Lib.toUpperA l).length : Int))) = ((d.toNat - l.length : Nat) : Int) := by
    rw [hL, w64_id (by omega) (by omega)]; unfold mxI; split <;> omega
  have e3 : F133 K (([48] : List UInt8), ((d.toNat - l.length : Nat) : Int)) = some (Lib.repeatL [48] (d.toNat - l.length)) := by
    unfold F133 repF
    dsimp only
    rw [Int.toNat_natCast]
    exact guard_dec ⟨by omega, by omega, by simp; omega⟩
  have t : T (F102 K (v, d)) (fun r => r = Lib.repeatL [48] (d.toNat - l.length) ++ Lib.toUpperA l) := by
    unfold F102
    refine T.eq e (T.eq e1 ?_)
    rw [e2]
    refine T.eq e3 (T.guard (decide_eq_true ?_) (T.ret rfl))
    rw [Lib.repeatL_length, hL]; simp; omega
  obtain ⟨r, er, rfl⟩ := t
  exact er
theorem all4 {p : UInt8 → Prop} {a b c d : UInt8} (h1 : p a) (h2 : p b) (h3 : p c) (h4 : p d) : ∀ x ∈ [a, b, c, d], p x := by
  intro x hx; simp at hx; rcases hx with rfl | rfl | rfl | rfl <;> assumption
theorem F102_4 (k : Nat) (v : Int) (h : 0 ≤ v ∧ v ≤ 65535) : F102 (k + 40) (v, 4) = some [hd (v / 16 / 16 / 16), hd (v / 16 / 16 % 16), hd (v / 16 % 16), hd (v % 16)] := by
  have z : hd 0 = 48 := by kernel_rfl
  by_cases h1 : v < 16
  · have q := F102_of (k + 40) v 4 _ h (F103_h _ v _ h (hx1 k v ⟨h.1, h1⟩)) (by intro x hx; simp at hx; subst hx; exact dg_ascii v ⟨h.1, h1⟩) (by simp) (by omega)
    rw [q, show v / 16 / 16 / 16 = 0 by omega, show v / 16 / 16 % 16 = 0 by omega, show v / 16 % 16 = 0 by omega, show v % 16 = v by omega, z]; rfl
  by_cases h2 : v < 256
  · have q := F102_of (k + 40) v 4 _ h (F103_h _ v _ h (hx2 k v ⟨by omega, h2⟩)) (by intro x hx; simp at hx; rcases hx with rfl | rfl <;> exact dg_ascii _ ⟨by omega, by omega⟩) (by simp) (by omega)
    rw [q, show v / 16 / 16 / 16 = 0 by omega, show v / 16 / 16 % 16 = 0 by omega, show v / 16 % 16 = v / 16 by omega, z]; rfl
  by_cases h3 : v < 4096
  · have q := F102_of (k + 40) v 4 _ h (F103_h _ v _ h (hx3 k v ⟨by omega, h3⟩)) (by intro x hx; simp at hx; rcases hx with rfl | rfl | rfl <;> exact dg_ascii _ ⟨by omega, by omega⟩) (by simp) (by omega)
    rw [q, show v / 16 / 16 / 16 = 0 by omega, show v / 16 / 16 % 16 = v / 16 / 16 by omega, z]; rfl
  · have q := F102_of (k + 40) v 4 _ h (F103_h _ v _ h (hx4 k v ⟨by omega, by omega⟩)) (all4 (dg_ascii _ ⟨by omega, by omega⟩) (dg_ascii _ ⟨by omega, by omega⟩) (dg_ascii _ ⟨by omega, by omega⟩) (dg_ascii _ ⟨by omega, by omega⟩)) (by simp) (by omega)
    rw [q]; rfl
theorem F102_2 (k : Nat) (v : Int) (h : 0 ≤ v ∧ v ≤ 255) : F102 (k + 40) (v, 2) = some [hd (v / 16), hd (v % 16)] := by
  have z : hd 0 = 48 := by kernel_rfl
  by_cases h1 : v < 16
  · have q := F102_of (k + 40) v 2 _ ⟨h.1, by omega⟩ (F103_h _ v _ ⟨h.1, by omega⟩ (hx1 k v ⟨h.1, h1⟩)) (by intro x hx; simp at hx; subst hx; exact dg_ascii v ⟨h.1, h1⟩) (by simp) (by omega)
    rw [q, show v / 16 = 0 by omega, show v % 16 = v by omega, z]; rfl
  · have q := F102_of (k + 40) v 2 _ ⟨h.1, by omega⟩ (F103_h _ v _ ⟨h.1, by omega⟩ (hx2 k v ⟨by omega, by omega⟩)) (by intro x hx; simp at hx; rcases hx with rfl | rfl <;> exact dg_ascii _ ⟨by omega, by omega⟩) (by simp) (by omega)
    rw [q]; rfl
def hxs : List UInt8 := [48, 49, 50, 51, 52, 53, 54, 55, 56, 57, 65, 66, 67, 68, 69, 70]
theorem hxs_at (n : Int) (h : 0 ≤ n ∧ n < 16) : subL hxs n (n + 1) = [hd n] := by
  obtain ⟨m, rfl⟩ : ∃ m : Nat, n = (m : Int) := ⟨n.toNat, by omega⟩
  have a : (List.range 16).all (fun i => decide (subL hxs (i : Int) ((i : Int) + 1) = [hd (i : Int)])) = true := by kernel_rfl
  exact of_decide_eq_true (List.all_eq_true.1 a m (List.mem_range.2 (by omega)))
theorem lx_go (K : Nat) (n d i : Int) (s : List UInt8) (hn : 0 ≤ n ∧ n ≤ 65535) (hi : 0 ≤ i ∧ i < d) (hd4 : d ≤ 4) (hs : s.length ≤ 4) :
    F53_b0 K (n, d, s, i) = some (.inl (n / 16, d, hd (n % 16) :: s, i + 1)) := by
  have e1 : Int.tmod n 16 = n % 16 := Int.tmod_eq_emod_of_nonneg hn.1
  have e2 : w64 (n % 16 + 1) = n % 16 + 1 := w64_id (by omega) (by omega)
  have e3 : w64 (Int.tdiv n 16) = n / 16 := by rw [Int.tdiv_eq_ediv_of_nonneg hn.1, w64_id (by omega) (by omega)]
  have e4 : w64 (i + 1) = i + 1 := w64_id (by omega) (by omega)
  have l : F53_b0 K (n, d, s, i) = branch (decide (i < d)) (guard (decide (0 ≤ Int.tmod n 16 ∧ Int.tmod n 16 ≤ w64 (Int.tmod n 16 + 1) ∧ w64 (Int.tmod n 16 + 1) ≤ 16)) <| guard (decide ((subL hxs (Int.tmod n 16) (w64 (Int.tmod n 16 + 1))).length + s.length ≤ 9223372036854775807)) <| some (.inl (w64 (Int.tdiv n 16), d, subL hxs (Int.tmod n 16) (w64 (Int.tmod n 16 + 1)) ++ s, w64 (i + 1)))) (some (.inr (n, s))) := rfl
  rw [l, decide_eq_true hi.2, branch_t, e1, e2, e3, e4, hxs_at _ ⟨by omega, by omega⟩]
  rw [decide_eq_true (show 0 ≤ n % 16 ∧ n % 16 ≤ n % 16 + 1 ∧ n % 16 + 1 ≤ 16 by omega), guard_t, decide_eq_true (show [hd (n % 16)].length + s.length ≤ 9223372036854775807 by simp; omega), guard_t]
  rfl
theorem lx_end (K : Nat) (n d i : Int) (s : List UInt8) (hi : ¬ i < d) : F53_b0 K (n, d, s, i) = some (.inr (n, s)) := by
  show branch (decide (i < d)) _ _ = _
  rw [decide_eq_false hi]; rfl
theorem F53_of (K : Nat) (v d : Int) (s : List UInt8) (hv : 0 ≤ v ∧ v ≤ 65535) (hd4 : 1 ≤ d ∧ d ≤ 4) (hs : s.length ≤ 4) (it : iter K (F53_b0 K) (v, d, [], 0) = some (0, s)) : F53 K (v, d) = some (36 :: s) := by
  have e1 : F38 K (d, 1, 4) = some true := (f38i K d 1 4).trans (congrArg some (decide_eq_true hd4))
  have e2 : F38 K (v, 0, 65535) = some true := (f38i K v 0 65535).trans (congrArg some (decide_eq_true hv))
  have t : T (F53 K (v, d)) (fun r => r = 36 :: s) := by
    unfold F53
    refine T.bindbind (T.bindbind (T.eq e1 (T.bindbr nofun fun _ => T.bindbind (T.eq e2 (T.binds (T.bindbr nofun fun _ => T.binds (T.csr (T.eq it (T.br nofun fun _ => ?_)))))))))
    exact T.guard (decide_eq_true (by dsimp only; omega)) (T.ret rfl)
  obtain ⟨r, er, rfl⟩ := t
  exact er
theorem F53_4 (k : Nat) (v : Int) (h : 0 ≤ v ∧ v ≤ 65535) : F53 (k + 40) (v, 4) = some (36 :: [hd (v / 16 / 16 / 16), hd (v / 16 / 16 % 16), hd (v / 16 % 16), hd (v % 16)]) := by
  refine F53_of (k + 40) v 4 _ h (by omega) (by simp) ?_
  refine (iter_go (n := k + 39) (lx_go _ v 4 0 [] h (by omega) (by omega) (by simp))).trans ?_
  refine (iter_go (n := k + 38) (lx_go _ (v / 16) 4 (0 + 1) _ (by omega) (by omega) (by omega) (by simp))).trans ?_
  refine (iter_go (n := k + 37) (lx_go _ (v / 16 / 16) 4 (0 + 1 + 1) _ (by omega) (by omega) (by omega) (by simp))).trans ?_
  refine (iter_go (n := k + 36) (lx_go _ (v / 16 / 16 / 16) 4 (0 + 1 + 1 + 1) _ (by omega) (by omega) (by omega) (by simp))).trans ?_
  refine (iter_end (n := k + 35) (lx_end _ (v / 16 / 16 / 16 / 16) 4 (0 + 1 + 1 + 1 + 1) _ (by omega))).trans ?_
  rw [show v / 16 / 16 / 16 / 16 = 0 by omega, show v / 16 / 16 / 16 % 16 = v / 16 / 16 / 16 by omega]
theorem F53_2 (k : Nat) (v : Int) (h : 0 ≤ v ∧ v ≤ 255) : F53 (k + 40) (v, 2) = some (36 :: [hd (v / 16), hd (v % 16)]) := by
  refine F53_of (k + 40) v 2 _ ⟨h.1, by omega⟩ (by omega) (by simp) ?_
  refine (iter_go (n := k + 39) (lx_go _ v 2 0 [] ⟨h.1, by omega⟩ (by omega) (by omega) (by simp))).trans ?_
  refine (iter_go (n := k + 38) (lx_go _ (v / 16) 2 (0 + 1) _ (by omega) (by omega) (by omega) (by simp))).trans ?_
  refine (iter_end (n := k + 37) (lx_end _ (v / 16 / 16) 2 (0 + 1 + 1) _ (by omega))).trans ?_
  rw [show v / 16 / 16 = 0 by omega, show v / 16 % 16 = v / 16 by omega]
end Go.U.Tryz
namespace Go.U.Tryz
open Go Go.U
set_option maxRecDepth 20000
set_option maxHeartbeats 1000000
def n16 : List UInt8 := [110, 49, 54]
def n8 : List UInt8 := [110, 56]
def e8 : List UInt8 := [101, 56]
def tplChk (k : Nat) (cb : Bool) (c : Nat) : Bool := match F31 (k + 40) ((c : Int), cb), F18 (k + 40) ((c : Int), cb), F37 (k + 40) ((c : Int), cb) with
  | some t, some t', some n => decide (t = t') && decide (t.length ≤ 100) && (decide (n = 0) == decide (t = [])) && (match F32 (k + 40) t, F19 (k + 40) t with
    | some h, some (a, h') => decide (h = h') && (decide (h = []) || (decide (Lib.index t h = a) && decide (0 ≤ a) && decide (a + (h.length : Int) ≤ (t.length : Int)) && decide (h = n16 ∨ h = n8 ∨ h = e8)))
    | _, _ => false)
  | _, _, _ => false
theorem tplAll (k : Nat) (cb : Bool) : (List.range 256).all (tplChk k cb) = true := by
  cases cb
  · kernel_rfl
  · kernel_rfl
theorem tpl (k : Nat) (c : Int) (cb : Bool) (hc : 0 ≤ c ∧ c ≤ 255) : ∃ (t h : List UInt8) (a n : Int), F31 (k + 40) (c, cb) = some t ∧ F18 (k + 40) (c, cb) = some t ∧ F37 (k + 40) (c, cb) = some n ∧ (n = 0 ↔ t = []) ∧ F32 (k + 40) t = some h ∧ F19 (k + 40) t = some (a, h) ∧ t.length ≤ 100 ∧
    (h = [] ∨ Lib.index t h = a ∧ 0 ≤ a ∧ a + (h.length : Int) ≤ (t.length : Int) ∧ (h = n16 ∨ h = n8 ∨ h = e8)) := by
  obtain ⟨m, rfl⟩ : ∃ m : Nat, c = (m : Int) := ⟨c.toNat, by omega⟩
  have hh := List.all_eq_true.1 (tplAll k cb) m (List.mem_range.2 (by omega))
  unfold tplChk at hh
  split at hh
  · rename_i t t' n e1 e2 e3
    simp only [Bool.and_eq_true] at hh
    obtain ⟨⟨⟨h1, h2⟩, h3⟩, h4⟩ := hh
    split at h4
    · rename_i h a h' e4 e5
      simp only [Bool.and_eq_true, Bool.or_eq_true, decide_eq_true_eq] at h1 h2 h4
      obtain ⟨h5, h6⟩ := h4
      subst h1 h5
      refine ⟨t, h, a, n, e1, e2, e3, ?_, e4, e5, h2, ?_⟩
      · have h3' : decide (n = 0) = decide (t = []) := eq_of_beq h3
        constructor
        · intro e
          rw [decide_eq_true e] at h3'
          exact of_decide_eq_true h3'.symm
        · intro e
          rw [decide_eq_true e] at h3'
          exact of_decide_eq_true h3'
      · rcases h6 with h6 | ⟨⟨⟨h6, h7⟩, h8⟩, h9⟩
        · exact .inl h6
        · exact .inr ⟨h6, h7, h8, h9⟩
    · cases h4
  · cases hh
theorem repl1 (t h f : List UInt8) (a : Nat) (hi : Lib.index t h = (a : Int)) (hne : h ≠ f) (hh : h ≠ []) : Lib.replace t h f 1 = t.take a ++ f ++ t.drop (a + h.length) := by
  have hb : ¬ (h == f) = true := fun e => hne (beq_iff_eq.1 e)
  have hc := Lib.count_hit hh hi
  have hn : Lib.replaceNum t h 1 = 0 + 1 := by
    unfold Lib.replaceNum
    rw [if_neg (by omega)]; rfl
  unfold Lib.replace
  rw [if_neg hb, hn, Lib.replaceK_hit h f 0 t a hi]
  rfl
theorem shr16 (v : Int) : shrI .i64 v 16 = v / 65536 := by
  show v.fdiv (2 ^ (min (16 : Int).toNat 64)) = _
  rw [show (min (16 : Int).toNat 64) = 16 from by decide, Int.fdiv_eq_ediv_of_nonneg _ (by decide)]
  rfl
theorem F74_of (K : Nat) (v d : Int) (l : List UInt8) (hv : 0 ≤ v ∧ v ≤ 65535) (hd : 1 ≤ d ∧ d ≤ 4) (hs : shrI .i64 v (w64 (4 * d)) = 0) (e : F102 K (v, d) = some l) (hl : l.length ≤ 4) : F74 K (v, d) = some (36 :: l) := by
  have e1 : F91 K (d, 1, 4) = some true := (f91i K d 1 4).trans (congrArg some (decide_eq_true hd))
  have e2 : F67 K v = some true := (f67i K v).trans (congrArg some (decide_eq_true hv))
  have e3 : w64 (4 * d) = 4 * d := w64_id (by omega) (by omega)
  have t : T (F74 K (v, d)) (fun r => r = 36 :: l) := by
    unfold F74
    refine T.bindbind (T.bindbind (T.eq e1 (T.bindbr nofun fun _ => T.bindbind (T.eq e2 (T.bindbr nofun fun _ => ?_)))))
    dsimp only
    rw [hs, e3]
    have g : decide (0 ≤ 4 * d) = true := decide_eq_true (by omega)
    rw [g]
    refine T.binds (T.bindbr nofun fun _ => T.binds (T.csr (T.eq e (T.guard (decide_eq_true (by omega)) (T.ret rfl)))))
  obtain ⟨r, er, rfl⟩ := t
  exact er
theorem F74_4 (k : Nat) (v : Int) (h : 0 ≤ v ∧ v ≤ 65535) : ∃ l, F74 (k + 40) (v, 4) = some (36 :: l) ∧ F53 (k + 40) (v, 4) = some (36 :: l) ∧ l.length = 4 :=
  ⟨_, F74_of (k + 40) v 4 _ h (by omega) (by show shrI .i64 v 16 = 0; rw [shr16]; omega) (F102_4 k v h) (by simp), F53_4 k v h, rfl⟩
theorem F74_2 (k : Nat) (v : Int) (h : 0 ≤ v ∧ v ≤ 255) : ∃ l, F74 (k + 40) (v, 2) = some (36 :: l) ∧ F53 (k + 40) (v, 2) = some (36 :: l) ∧ l.length = 2 :=
  ⟨_, F74_of (k + 40) v 2 _ ⟨h.1, by omega⟩ (by omega) (by show shrI .i64 v 8 = 0; rw [shr8]; omega) (F102_2 k v h) (by simp), F53_2 k v h, rfl⟩
def sgnChk (k : Nat) (n : Nat) : Bool := match F76 (k + 40) (n : Int), F54 (k + 40) (n : Int) with
  | some a, some b => decide (a = b) && (match F75 (k + 40) a, F41 (k + 40) a with
    | some l, some l' => decide (l = l') && decide (l.length ≤ 4) && decide (l ≠ e8)
    | _, _ => false)
  | _, _ => false
theorem sgnAll (k : Nat) : (List.range 256).all (sgnChk k) = true := by kernel_rfl
theorem sgn (k : Nat) (v : Int) (h : 0 ≤ v ∧ v ≤ 255) : ∃ a l, F76 (k + 40) v = some a ∧ F54 (k + 40) v = some a ∧ F75 (k + 40) a = some l ∧ F41 (k + 40) a = some l ∧ l.length ≤ 4 ∧ l ≠ e8 := by
  obtain ⟨m, rfl⟩ : ∃ m : Nat, v = (m : Int) := ⟨v.toNat, by omega⟩
  have hh := List.all_eq_true.1 (sgnAll k) m (List.mem_range.2 (by omega))
  unfold sgnChk at hh
  split at hh
  · rename_i a b e1 e2
    simp only [Bool.and_eq_true, decide_eq_true_eq] at hh
    obtain ⟨h1, h2⟩ := hh
    subst h1
    split at h2
    · rename_i l l' e3 e4
      simp only [Bool.and_eq_true, decide_eq_true_eq] at h2
      obtain ⟨⟨h3, h4⟩, h5⟩ := h2
      subst h3
      exact ⟨a, l, e1, e2, e3, e4, h4, h5⟩
    · cases h2
  · cases hh
def okI (h : List UInt8) (imm : Int) : Bool := if h = [] then decide (imm = 0) else if h = n16 then inR imm 0 65535 else inR imm 0 255
theorem F33_of (k : Nat) (c imm : Int) (cb : Bool) (t h : List UInt8) (e1 : F31 (k + 40) (c, cb) = some t) (e2 : F32 (k + 40) t = some h) (ht : t ≠ []) : F33 (k + 40) (c, cb, imm) = some (okI h imm) := by
  have r : T (F33 (k + 40) (c, cb, imm)) (fun r => r = okI h imm) := by
    unfold F33
    refine T.eq e1 (T.br (fun g => absurd (of_decide_eq_true g) ht) fun _ => T.eq e2 (T.br (fun g => T.ret ?_) fun g => T.br (fun g2 => ?_) fun g2 => ?_))
    · unfold okI; rw [if_pos (of_decide_eq_true g)]
    · refine T.eq (f67i _ _) (T.ret ?_)
      have g2' : h = n16 := of_decide_eq_true g2
      unfold okI; rw [if_neg (of_decide_eq_false g), if_pos g2']
    · refine T.eq (f59i _ _) (T.ret ?_)
      have g2' : ¬ h = n16 := of_decide_eq_false g2
      unfold okI; rw [if_neg (of_decide_eq_false g), if_neg g2']
  obtain ⟨x, ex, rfl⟩ := r
  exact ex
theorem F17_of (k : Nat) (c imm a n : Int) (cb : Bool) (t h : List UInt8) (e0 : F37 (k + 40) (c, cb) = some n) (hn : ¬ n = 0) (e1 : F18 (k + 40) (c, cb) = some t) (e2 : F19 (k + 40) t = some (a, h)) (hh : h = [] ∨ h = n16 ∨ h = n8 ∨ h = e8) : F17 (k + 40) (c, cb, imm) = some (okI h imm) := by
  have r : T (F17 (k + 40) (c, cb, imm)) (fun r => r = okI h imm) := by
    unfold F17
    refine T.eq e0 (T.br (fun g => absurd (of_decide_eq_true g) hn) fun _ => T.eq e1 (T.eq e2 (T.br (fun g => ?_) fun g => ?_)))
    · have g' : h = n16 := of_decide_eq_true g
      refine T.eq (f38i _ _ _ _) (T.ret ?_)
      unfold okI; rw [g', if_neg (by decide), if_pos rfl]
    · have g' : ¬ h = n16 := of_decide_eq_false g
      refine T.bindbr (fun g2 => T.binds (T.br (fun _ => ?_) nofun)) fun g2 => T.binds (T.br (fun g3 => ?_) fun g3 => ?_)
      · have g2' : h = n8 := of_decide_eq_true g2
        refine T.eq (f38i _ _ _ _) (T.ret ?_)
        unfold okI; rw [if_neg (by rw [g2']; decide), if_neg g']
      · have g3' : h = e8 := of_decide_eq_true g3
        refine T.eq (f38i _ _ _ _) (T.ret ?_)
        unfold okI; rw [if_neg (by rw [g3']; decide), if_neg g']
      · refine T.ret ?_
        have g2' : ¬ h = n8 := of_decide_eq_false g2
        have g3' : ¬ h = e8 := of_decide_eq_false g3
        have : h = [] := by rcases hh with e | e | e | e; exact e; exact absurd e g'; exact absurd e g2'; exact absurd e g3'
        unfold okI; rw [if_pos this]
  obtain ⟨x, ex, rfl⟩ := r
  exact ex
theorem rpl_of (K : Nat) (t h f : List UInt8) (a : Nat) (hi : Lib.index t h = (a : Int)) (hne : h ≠ f) (hh : 1 ≤ h.length) (ht : t.length ≤ 100) (hf : f.length ≤ 10) : F34 K (t, h, f, 1) = some (t.take a ++ f ++ t.drop (a + h.length)) := by
  unfold F34 rplF
  rw [repl1 t h f a hi hne (by intro e; rw [e] at hh; simp at hh)]
  exact guard_dec ⟨hh, by dsimp only; omega, by dsimp only; omega⟩
theorem ins_text (k : Nat) (c imm : Int) (cb : Bool) (hc : 0 ≤ c ∧ c ≤ 255) : ∃ s, F15 (k + 40) (c, cb, imm) = some s ∧ F28 (k + 40) (c, cb, imm) = some s ∧ s.length ≤ 200 := by
  obtain ⟨t, h, a, n, e1, e2, e3, hn, e4, e5, hl, hcase⟩ := tpl k c cb hc
  by_cases ht : t = []
  · refine ⟨[], ?_, ?_, by simp⟩
    · have r : T (F15 (k + 40) (c, cb, imm)) (fun r => r = []) := by
        unfold F15 F33
        exact T.bindbind (T.eq e1 (T.bindbr (fun _ => T.binds (T.br (fun _ => T.ret rfl) nofun)) fun g => absurd ht (of_decide_eq_false g)))
      obtain ⟨x, ex, rfl⟩ := r; exact ex
    · have r : T (F28 (k + 40) (c, cb, imm)) (fun r => r = []) := by
        unfold F28 F17
        exact T.bindbind (T.eq e3 (T.bindbr (fun _ => T.binds (T.br (fun _ => T.ret rfl) nofun)) fun g => absurd (hn.2 ht) (of_decide_eq_false g)))
      obtain ⟨x, ex, rfl⟩ := r; exact ex
  have hh : h = [] ∨ h = n16 ∨ h = n8 ∨ h = e8 := hcase.imp_right fun z => z.2.2.2
  have o1 := F33_of k c imm cb t h e1 e4 ht
  have o2 := F17_of k c imm a n cb t h e3 (fun e => ht (hn.1 e)) e2 e5 hh
  cases ho : okI h imm with
  | false =>
    rw [ho] at o1 o2
    refine ⟨[], ?_, ?_, by simp⟩
    · unfold F15; rw [o1]; rfl
    · unfold F28; rw [o2]; rfl
  | true =>
    rw [ho] at o1 o2
    rcases hcase with h0 | ⟨hi, ha0, ha1, h3⟩
    · refine ⟨t, ?_, ?_, by omega⟩
      · have r : T (F15 (k + 40) (c, cb, imm)) (fun r => r = t) := by
          unfold F15
          exact T.eq o1 (T.br nofun fun _ => T.eq e1 (T.eq e4 (T.br (fun g => by rw [decide_eq_true h0] at g; cases g) fun _ => T.ret rfl)))
        obtain ⟨x, ex, rfl⟩ := r; exact ex
      · have r : T (F28 (k + 40) (c, cb, imm)) (fun r => r = t) := by
          unfold F28
          refine T.eq o2 (T.br nofun fun _ => T.eq e2 (T.eq e5 ?_))
          rw [h0]
          exact T.br nofun fun _ => T.br nofun fun _ => T.br nofun fun _ => T.ret rfl
        obtain ⟨x, ex, rfl⟩ := r; exact ex
    · obtain ⟨m, rfl⟩ : ∃ m : Nat, a = (m : Int) := ⟨a.toNat, by omega⟩
      have hne : h ≠ [] := by rcases h3 with e | e | e <;> (rw [e]; decide)
      have hlen : 1 ≤ h.length ∧ h.length ≤ 3 := by rcases h3 with e | e | e <;> (rw [e]; decide)
      -- the hole's text, both
      have key : ∀ f : List UInt8, f.length ≤ 5 → h ≠ f → F35 (k + 40) (h, imm) = some f →
          (T (F28 (k + 40) (c, cb, imm)) fun r => r = t.take m ++ f ++ t.drop (m + h.length)) → ∃ s, F15 (k + 40) (c, cb, imm) = some s ∧ F28 (k + 40) (c, cb, imm) = some s ∧ s.length ≤ 200 := by
        rintro f hf hd q1 ⟨x, ex, rfl⟩
        refine ⟨_, ?_, ex, ?_⟩
        · have q2 := rpl_of (k + 40) t h f m hi hd hlen.1 hl (by omega)
          have r : T (F15 (k + 40) (c, cb, imm)) (fun r => r = t.take m ++ f ++ t.drop (m + h.length)) := by
            unfold F15
            exact T.eq o1 (T.br nofun fun _ => T.eq e1 (T.eq e4 (T.br (fun _ => T.eq q1 (T.eq q2 (T.ret rfl))) fun g => by rw [decide_eq_false hne] at g; cases g)))
          obtain ⟨x, ex, rfl⟩ := r; exact ex
        · rw [List.length_append, List.length_append, List.length_take, List.length_drop]; omega
      have tk : ∀ f : List UInt8, f.length ≤ 5 → (tkL t (m : Int)).length + f.length ≤ 9223372036854775807 := fun f hf => by unfold tkL; rw [List.length_take]; omega
      have w3 : ∀ j : Nat, j ≤ 3 → w64 ((m : Int) + (j : Int)) = ((m + j : Nat) : Int) := fun j hj => by rw [w64_id (by omega) (by omega)]; omega
      rcases h3 with e | e | e
      · subst e
        have ho' : 0 ≤ imm ∧ imm ≤ 65535 := of_decide_eq_true ho
        obtain ⟨l, q1, q2, q3⟩ := F74_4 k imm ho'
        refine key (36 :: l) (by simp; omega) (by intro z; cases z) ?_ ?_
        · have r : T (F35 (k + 40) (n16, imm)) (fun r => r = 36 :: l) := by
            unfold F35
            exact T.br nofun fun _ => T.br (fun _ => T.eq q1 (T.ret rfl)) nofun
          obtain ⟨x, ex, rfl⟩ := r; exact ex
        · unfold F28
          refine T.eq o2 (T.br nofun fun _ => T.eq e2 (T.eq e5 (T.br (fun _ => ?_) nofun)))
          have w := w3 3 (by omega)
          have hm3 : (m : Int) + 3 ≤ (t.length : Int) := ha1
          refine T.guard (decide_eq_true ⟨by dsimp only; omega, by dsimp only; omega⟩) (T.eq q2 (T.guard (decide_eq_true (tk _ (by simp; omega))) ?_))
          show T (guard (decide (0 ≤ w64 ((m : Int) + 3) ∧ w64 ((m : Int) + 3) ≤ (t.length : Int))) <| guard (decide (((tkL t (m : Int) ++ (36 :: l)).length + (dpL t (w64 ((m : Int) + 3))).length) ≤ 9223372036854775807)) <| some ((tkL t (m : Int) ++ (36 :: l)) ++ dpL t (w64 ((m : Int) + 3)))) _
          rw [show w64 ((m : Int) + 3) = ((m + 3 : Nat) : Int) from w]
          refine T.guard (decide_eq_true ⟨by omega, by omega⟩) (T.guard (decide_eq_true ?_) (T.ret rfl))
          unfold tkL dpL; rw [List.length_append, List.length_take, List.length_drop]; simp; omega
      · subst e
        have ho' : 0 ≤ imm ∧ imm ≤ 255 := of_decide_eq_true ho
        obtain ⟨l, q1, q2, q3⟩ := F74_2 k imm ho'
        refine key (36 :: l) (by simp; omega) (by intro z; cases z) ?_ ?_
        · have r : T (F35 (k + 40) (n8, imm)) (fun r => r = 36 :: l) := by
            unfold F35
            exact T.br (fun _ => T.eq q1 (T.ret rfl)) nofun
          obtain ⟨x, ex, rfl⟩ := r; exact ex
        · unfold F28
          refine T.eq o2 (T.br nofun fun _ => T.eq e2 (T.eq e5 (T.br nofun fun _ => T.br (fun _ => ?_) nofun)))
          have w := w3 2 (by omega)
          have hm3 : (m : Int) + 2 ≤ (t.length : Int) := ha1
          refine T.guard (decide_eq_true ⟨by dsimp only; omega, by dsimp only; omega⟩) (T.eq q2 (T.guard (decide_eq_true (tk _ (by simp; omega))) ?_))
          show T (guard (decide (0 ≤ w64 ((m : Int) + 2) ∧ w64 ((m : Int) + 2) ≤ (t.length : Int))) <| guard (decide (((tkL t (m : Int) ++ (36 :: l)).length + (dpL t (w64 ((m : Int) + 2))).length) ≤ 9223372036854775807)) <| some ((tkL t (m : Int) ++ (36 :: l)) ++ dpL t (w64 ((m : Int) + 2)))) _
          rw [show w64 ((m : Int) + 2) = ((m + 2 : Nat) : Int) from w]
          refine T.guard (decide_eq_true ⟨by omega, by omega⟩) (T.guard (decide_eq_true ?_) (T.ret rfl))
          unfold tkL dpL; rw [List.length_append, List.length_take, List.length_drop]; simp; omega
      · subst e
        have ho' : 0 ≤ imm ∧ imm ≤ 255 := of_decide_eq_true ho
        obtain ⟨b, l, q1, q2, q3, q4, q5, q6⟩ := sgn k imm ho'
        refine key l (by omega) (fun z => q6 z.symm) ?_ ?_
        · have r : T (F35 (k + 40) (e8, imm)) (fun r => r = l) := by
            unfold F35
            exact T.br nofun fun _ => T.br nofun fun _ => T.eq q1 (T.eq q3 (T.ret rfl))
          obtain ⟨x, ex, rfl⟩ := r; exact ex
        · unfold F28
          refine T.eq o2 (T.br nofun fun _ => T.eq e2 (T.eq e5 (T.br nofun fun _ => T.br nofun fun _ => T.br (fun _ => ?_) nofun)))
          have w := w3 2 (by omega)
          have hm3 : (m : Int) + 2 ≤ (t.length : Int) := ha1
          refine T.guard (decide_eq_true ⟨by dsimp only; omega, by dsimp only; omega⟩) (T.eq q2 (T.eq q4 (T.guard (decide_eq_true (tk _ (by omega))) ?_)))
          show T (guard (decide (0 ≤ w64 ((m : Int) + 2) ∧ w64 ((m : Int) + 2) ≤ (t.length : Int))) <| guard (decide (((tkL t (m : Int) ++ l).length + (dpL t (w64 ((m : Int) + 2))).length) ≤ 9223372036854775807)) <| some ((tkL t (m : Int) ++ l) ++ dpL t (w64 ((m : Int) + 2)))) _
          rw [show w64 ((m : Int) + 2) = ((m + 2 : Nat) : Int) from w]
          refine T.guard (decide_eq_true ⟨by omega, by omega⟩) (T.guard (decide_eq_true ?_) (T.ret rfl))
          unfold tkL dpL; rw [List.length_append, List.length_take, List.length_drop]; omega
end Go.U.Tryz
namespace Go.U.Tryz
open Go Go.U Go.U.Exp
set_option maxRecDepth 20000
def RdOk (r : List Int × Int) : Prop := (∀ v ∈ r.1, 0 ≤ v ∧ v ≤ 255) ∧ r.1.length ≤ 1048576 ∧ 0 ≤ r.2 ∧ r.2 ≤ 1048576
theorem F52_ok (K : Nat) (r : List Int × Int) (h : RdOk r) : ∃ v r', F52 K r = some (v, r') ∧ (0 ≤ v ∧ v ≤ 255) ∧ RdOk r' := by
  obtain ⟨hb, hl, h0, h1⟩ := h
  simp only [F52, branch_ite]
  split
  · exact ⟨0, r, rfl, by omega, hb, hl, h0, h1⟩
  · rename_i g
    obtain ⟨p, hp⟩ : ∃ p : Nat, r.2 = (p : Int) := ⟨r.2.toNat, by omega⟩
    have hp' : p < r.1.length := by omega
    have e1 : w64 (r.2 + 1) = r.2 + 1 := w64_id (by omega) (by omega)
    have e2 : w64 (r.2 + 1 - 1) = (p : Int) := by rw [w64_id (by omega) (by omega)]; omega
    have hv := List.getElem?_eq_getElem hp'
    have hb' := hb _ (List.getElem_mem hp')
    simp only [e1, e2, nth_s hv]
    refine ⟨_, _, rfl, ?_, hb, hl, by simp; omega, by simp; omega⟩
    rw [w64_id (by omega) (by omega)]
    exact hb'
theorem F26_ok (K : Nat) (n : Int) (r : List Int × Int) (h : RdOk r) (hn : 1 ≤ n) (hn' : n ≤ 256) : ∃ v r', F26 K (n, r) = some (v, r') ∧ (0 ≤ v ∧ v < n) ∧ RdOk r' := by
  by_cases h1 : n ≤ 1
  · exact ⟨0, r, by simp only [F26, branch_ite, if_pos h1], by omega, h⟩
  obtain ⟨v, r', e, hv, hr⟩ := F52_ok K r h
  have e1 : (!(decide (n = 0))) = true := by rw [decide_eq_false (by omega)]; rfl
  simp only [F26, branch_ite, if_neg h1, if_pos hn', e, bindO_s, e1, guard_t]
  exact ⟨_, _, rfl, ⟨Int.tmod_nonneg _ (by omega), Int.tmod_lt_of_pos _ (by omega)⟩, hr⟩
theorem F55_ok (K : Nat) (n : Int) (r : List Int × Int) (h : RdOk r) (hn : 1 ≤ n) (hn' : n ≤ 256) : ∃ b r', F55 K (n, r) = some (b, r') ∧ RdOk r' := by
  obtain ⟨v, r', e, hv, hr⟩ := F26_ok K n r h hn hn'
  simp only [F55, e, bindO_s]
  exact ⟨_, _, rfl, hr⟩
theorem small {l : List By} {v : Int} {m : Nat} (h0 : 0 ≤ v) (h1 : v < (l.length : Int)) (hm : ∀ x ∈ l, x.length ≤ m) : ∃ x, l[v.toNat]? = some x ∧ x.length ≤ m := by
  have hlt : v.toNat < l.length := by omega
  exact ⟨_, List.getElem?_eq_getElem hlt, hm _ (List.getElem_mem hlt)⟩
theorem F58_ok (K : Nat) (r : List Int × Int) (h : RdOk r) : ∃ s r', F58 K r = some (s, r') ∧ s.length ≤ 4 ∧ RdOk r' := by
  obtain ⟨v, r', e, hv, hr⟩ := F26_ok K 4 r h (by omega) (by omega)
  obtain ⟨x, hx, hl⟩ := small (l := [([97, 49] : List UInt8), ([108, 111, 111, 112] : List UInt8), ([120, 46, 121] : List UInt8), ([101, 110, 100, 95] : List UInt8)]) (m := 4) hv.1 hv.2 (by decide)
  unfold F58
  rw [e, bindO_s]
  dsimp only
  rw [decide_eq_true ⟨hv.1, hv.2⟩, guard_t, nthN_s hx]
  exact ⟨_, _, rfl, hl, hr⟩
def bnd : Nat → Nat
  | 0 => 5
  | j + 1 => 2 * bnd j + 8
theorem infix_step {I : Int × List Int × Int → Option (List UInt8 × List Int × Int)} (K : Nat) (deep : Int) (h0 : 0 ≤ deep) (h3 : deep ≤ 100) (m : Nat) (hm : 5 ≤ m) (hm' : m ≤ 1000)
    (hI : deep ≤ 3 → ∀ r, RdOk r → ∃ s r', I (deep + 1, r) = some (s, r') ∧ s.length ≤ m ∧ RdOk r') (r : List Int × Int) (h : RdOk r) :
    ∃ s r', F30b I K (deep, r) = some (s, r') ∧ s.length ≤ (if deep ≤ 3 then 2 * m + 8 else 5) ∧ RdOk r' := by
  have ew : w64 (deep + 1) = deep + 1 := w64_id (by omega) (by omega)
  unfold F30b
  dsimp only
  by_cases hd : 3 < deep
  · rw [decide_eq_true hd, branch_t, if_neg (by omega)]
    obtain ⟨s1, r1, e1, l1, k1⟩ := F58_ok K r h
    obtain ⟨v, r2, e2, hv, k2⟩ := F26_ok K 5 r1 k1 (by omega) (by omega)
    obtain ⟨x, hx, hl⟩ := small (l := [([49] : List UInt8), ([36, 70, 70] : List UInt8), s1, ([37, 49, 48, 49] : List UInt8), ([54, 53, 53, 51, 53] : List UInt8)]) (m := 5) hv.1 hv.2 (by
      intro x hx
      simp only [List.mem_cons, List.mem_nil_iff, or_false] at hx
      rcases hx with rfl | rfl | rfl | rfl | rfl <;> first | decide | omega)
    rw [e1, bindO_s]
    dsimp only
    rw [e2, bindO_s]
    dsimp only
    rw [decide_eq_true ⟨hv.1, hv.2⟩, guard_t, nthN_s hx]
    exact ⟨_, _, rfl, hl, k2⟩
  rw [decide_eq_false hd, branch_f, if_pos (by omega), ew]
  have hI := hI (by omega)
  obtain ⟨v, r1, e1, hv, k1⟩ := F26_ok K 9 r h (by omega) (by omega)
  rw [e1, bindO_s]
  dsimp only
  by_cases c0 : v = 0
  · obtain ⟨s2, r2, e2, l2, k2⟩ := hI r1 k1
    rw [decide_eq_true c0, branch_t, e2, bindO_s]
    dsimp only
    rw [decide_eq_true (by omega), guard_t]
    exact ⟨_, _, rfl, by rw [List.length_append]; simp only [List.length_cons, List.length_nil]; omega, k2⟩
  rw [decide_eq_false c0, branch_f]
  by_cases c1 : v = 1
  · obtain ⟨s2, r2, e2, l2, k2⟩ := hI r1 k1
    rw [decide_eq_true c1, branch_t, e2, bindO_s]
    dsimp only
    rw [decide_eq_true (by omega), guard_t, decide_eq_true (by rw [List.length_append]; simp only [List.length_cons, List.length_nil]; omega), guard_t]
    exact ⟨_, _, rfl, by rw [List.length_append, List.length_append]; simp only [List.length_cons, List.length_nil]; omega, k2⟩
  rw [decide_eq_false c1, branch_f]
  by_cases c2 : v = 2
  · obtain ⟨u, r2, e2, hu, k2⟩ := F26_ok K 2 r1 k1 (by omega) (by omega)
    obtain ⟨x, hx, hl⟩ := small (l := [([104, 105, 103, 104, 40] : List UInt8), ([108, 111, 119, 40] : List UInt8)]) (m := 5) hu.1 hu.2 (by decide)
    obtain ⟨s3, r3, e3, l3, k3⟩ := hI r2 k2
    rw [decide_eq_true c2, branch_t, e2, bindO_s]
    dsimp only
    rw [nth_z hu.1 hx, e3, bindO_s]
    dsimp only
    rw [decide_eq_true (by omega), guard_t, decide_eq_true (by rw [List.length_append]; omega), guard_t]
    exact ⟨_, _, rfl, by rw [List.length_append, List.length_append]; simp only [List.length_cons, List.length_nil]; omega, k3⟩
  rw [decide_eq_false c2, branch_f]
  by_cases c3 : v = 3
  · obtain ⟨s2, r2, e2, l2, k2⟩ := F58_ok K r1 k1
    rw [decide_eq_true c3, branch_t, e2, bindO_s]
    dsimp only
    rw [decide_eq_true (by omega), guard_t, decide_eq_true (by rw [List.length_append]; simp only [List.length_cons, List.length_nil]; omega), guard_t]
    exact ⟨_, _, rfl, by rw [List.length_append, List.length_append]; simp only [List.length_cons, List.length_nil]; omega, k2⟩
  rw [decide_eq_false c3, branch_f]
  have two : ∃ s r', (bindO (I (w64 (deep + 1), r1)) fun v11 =>
          bindO (F26 K (10, v11.2)) fun v12 =>
          nth [([43] : List UInt8), ([45] : List UInt8), ([42] : List UInt8), ([47] : List UInt8), ([37] : List UInt8), ([38] : List UInt8), ([94] : List UInt8), ([124] : List UInt8), ([60, 60] : List UInt8), ([62, 62] : List UInt8)] v12.1 fun v13 =>
          guard (decide ((v11.1.length + v13.length) ≤ 9223372036854775807)) <|
          bindO (I (w64 (deep + 1), v12.2)) fun v14 =>
          guard (decide ((((v11.1 ++ v13).length) + v14.1.length) ≤ 9223372036854775807)) <|
          some (Sum.inl (β := (List Int) × Int) ((v11.1 ++ v13) ++ v14.1, v14.2))) = some (.inl (s, r')) ∧ s.length ≤ 2 * m + 8 ∧ RdOk r' := by
    obtain ⟨s2, r2, e2, l2, k2⟩ := hI r1 k1
    obtain ⟨u, r3, e3, hu, k3⟩ := F26_ok K 10 r2 k2 (by omega) (by omega)
    obtain ⟨x, hx, hl⟩ := small (l := [([43] : List UInt8), ([45] : List UInt8), ([42] : List UInt8), ([47] : List UInt8), ([37] : List UInt8), ([38] : List UInt8), ([94] : List UInt8), ([124] : List UInt8), ([60, 60] : List UInt8), ([62, 62] : List UInt8)]) (m := 2) hu.1 hu.2 (by decide)
    obtain ⟨s4, r4, e4, l4, k4⟩ := hI r3 k3
    rw [ew, e2, bindO_s]
    dsimp only
    rw [e3, bindO_s]
    dsimp only
    rw [nth_z hu.1 hx, decide_eq_true (by omega), guard_t, e4, bindO_s]
    dsimp only
    rw [decide_eq_true (by rw [List.length_append]; omega), guard_t]
    exact ⟨_, _, rfl, by rw [List.length_append, List.length_append]; omega, k4⟩
  obtain ⟨s2, r2, e2, l2, k2⟩ := two
  by_cases c4 : v = 4
  · rw [decide_eq_true c4, branch_t, bindO_s]
    dsimp only
    rw [branch_t, e2]
    exact ⟨_, _, rfl, l2, k2⟩
  rw [decide_eq_false c4, branch_f, bindO_s]
  dsimp only
  by_cases c5 : v = 5
  · rw [decide_eq_true c5, branch_t, e2]
    exact ⟨_, _, rfl, l2, k2⟩
  rw [decide_eq_false c5, branch_f]
  by_cases c6 : v = 6
  · obtain ⟨s3, r3, e3, l3, k3⟩ := hI r1 k1
    rw [decide_eq_true c6, branch_t, ew, e3, bindO_s]
    dsimp only
    rw [decide_eq_true (by omega), guard_t]
    exact ⟨_, _, rfl, by rw [List.length_append]; simp only [List.length_cons, List.length_nil]; omega, k3⟩
  rw [decide_eq_false c6, branch_f, bindO_s, csO_r]
  obtain ⟨s3, r3, e3, l3, k3⟩ := F58_ok K r1 k1
  obtain ⟨u, r4, e4, hu, k4⟩ := F26_ok K 5 r3 k3 (by omega) (by omega)
  obtain ⟨x, hx, hl⟩ := small (l := [([48] : List UInt8), ([55] : List UInt8), ([36, 49, 50, 51, 52] : List UInt8), s3, ([50, 48, 48] : List UInt8)]) (m := 5) hu.1 hu.2 (by
    intro x hx
    simp only [List.mem_cons, List.mem_nil_iff, or_false] at hx
    rcases hx with rfl | rfl | rfl | rfl | rfl <;> first | decide | omega)
  rw [e3, bindO_s]
  dsimp only
  rw [e4, bindO_s]
  dsimp only
  rw [decide_eq_true ⟨hu.1, hu.2⟩, guard_t, nthN_s hx]
  exact ⟨_, _, rfl, by omega, k4⟩
theorem bnd_le : ∀ j, j ≤ 3 → 5 ≤ bnd j ∧ bnd j ≤ 100 := by decide
theorem infix_ok (K : Nat) : ∀ (j R : Nat), j ≤ 3 → j < R → ∀ r, RdOk r → ∃ s r', R30 K R (4 - (j : Int), r) = some (s, r') ∧ s.length ≤ bnd j ∧ RdOk r'
  | 0, R, _, hR, r, h => by
    obtain ⟨R, rfl⟩ : ∃ x, R = x + 1 := ⟨R - 1, by omega⟩
    obtain ⟨s, r', e1, e2, e3⟩ := infix_step (I := R30 K R) K 4 (by omega) (by omega) 5 (by omega) (by omega) (fun h => absurd h (by omega)) r h
    exact ⟨s, r', e1, e2, e3⟩
  | j + 1, R, hj, hR, r, h => by
    obtain ⟨R, rfl⟩ : ∃ x, R = x + 1 := ⟨R - 1, by omega⟩
    have hb := bnd_le j (by omega)
    obtain ⟨s, r', e1, e2, e3⟩ := infix_step (I := R30 K R) K (4 - ((j + 1 : Nat) : Int)) (by omega) (by omega) (bnd j) (by omega) (by omega) (fun _ r hr => by
      rw [show 4 - ((j + 1 : Nat) : Int) + 1 = 4 - (j : Int) by omega]
      exact infix_ok K j R (by omega) (by omega) r hr) r h
    rw [if_pos (by omega)] at e2
    exact ⟨s, r', e1, e2, e3⟩
theorem F27_ok (K : Nat) (s : By) (r : List Int × Int) (hs : s.length ≤ 200) (h : RdOk r) : ∃ t r', F27 K (s, r) = some (t, r') ∧ t.length ≤ 500 := by
  obtain ⟨v, r1, e1, hv, k1⟩ := F26_ok K 6 r h (by omega) (by omega)
  unfold F27
  dsimp only
  rw [e1, bindO_s]
  dsimp only
  by_cases c1 : v = 1
  · obtain ⟨u, r2, e2, hu, k2⟩ := F26_ok K ((s.length : Int) + 1) r1 k1 (by omega) (by omega)
    rw [decide_eq_true c1, branch_t, w64_id (n := (s.length : Int) + 1) (by omega) (by omega), e2, bindO_s]
    dsimp only
    rw [decide_eq_true (show 0 ≤ u ∧ u ≤ (s.length : Int) by omega), guard_t]
    exact ⟨_, _, rfl, by unfold tkL; rw [List.length_take]; omega⟩
  rw [decide_eq_false c1, branch_f]
  by_cases c2 : v = 2
  · rw [decide_eq_true c2, branch_t]
    by_cases hz : 0 < (s.length : Int)
    · obtain ⟨u, r2, e2, hu, k2⟩ := F26_ok K (s.length : Int) r1 k1 (by omega) (by omega)
      obtain ⟨q, r3, e3, hq, k3⟩ := F26_ok K 6 r2 k2 (by omega) (by omega)
      obtain ⟨x, hx, hl⟩ := small (l := [([48] : List UInt8), ([97] : List UInt8), ([32] : List UInt8), ([44] : List UInt8), ([36] : List UInt8), ([43] : List UInt8)]) (m := 1) hq.1 hq.2 (by decide)
      rw [decide_eq_true hz, branch_t, e2, bindO_s]
      dsimp only
      rw [decide_eq_true (show 0 ≤ u ∧ u ≤ (s.length : Int) by omega), guard_t, e3, bindO_s]
      dsimp only
      have l1 : (tkL s u).length ≤ s.length := by unfold tkL; rw [List.length_take]; omega
      have l2 : (dpL s (w64 (u + 1))).length ≤ s.length := by unfold dpL; rw [List.length_drop]; omega
      rw [nth_z hq.1 hx, decide_eq_true (by omega), guard_t, decide_eq_true (by rw [w64_id (by omega) (by omega)]; omega), guard_t, decide_eq_true (by rw [List.length_append]; omega), guard_t]
      exact ⟨_, _, rfl, by rw [List.length_append, List.length_append]; omega⟩
    · rw [decide_eq_false hz, branch_f]
      exact ⟨_, _, rfl, by omega⟩
  rw [decide_eq_false c2, branch_f]
  by_cases c3 : v = 3
  · obtain ⟨u, r2, e2, hu, k2⟩ := F26_ok K 3 r1 k1 (by omega) (by omega)
    obtain ⟨x, hx, hl⟩ := small (l := [([32] : List UInt8), ([48] : List UInt8), ([120] : List UInt8)]) (m := 1) hu.1 hu.2 (by decide)
    rw [decide_eq_true c3, branch_t, e2, bindO_s]
    dsimp only
    rw [decide_eq_true ⟨hu.1, hu.2⟩, guard_t, nthN_s hx, decide_eq_true (by omega), guard_t]
    exact ⟨_, _, rfl, by rw [List.length_append]; omega⟩
  rw [decide_eq_false c3, branch_f]
  exact ⟨_, _, rfl, by omega⟩
theorem F13_self (K : Nat) (hK : 1000 < K) (e : Os) (hl : e.length ≤ 900) : F13 K (e, e) = some true := by
  unfold F13
  dsimp only
  rw [decide_eq_true rfl, Bool.not_true, branch_f]
  have := loop_all (f := F13_b0 K) (fun i => (e, e, (i : Int))) e (fun _ => true) (.inl false) (.inr ()) (fun i v hv hi => by
    have e2 : w64 ((i : Int) + 1) = ((i + 1 : Nat) : Int) := by rw [w64_id (by omega) (by omega)]; omega
    unfold F13_b0
    dsimp only
    rw [decide_eq_true (show (i : Int) < (e.length : Int) by omega), branch_t]
    simp only [nth_s hv]
    rw [e2]; simp only [decide_true]; rfl) (by
    unfold F13_b0; dsimp only; rw [decide_eq_false (by omega)]; rfl) K (by omega)
  rw [show ((0 : Nat) : Int) = 0 from rfl] at this
  rw [this]
  have : (e.all fun _ => true) = true := List.all_eq_true.2 fun _ _ => rfl
  rw [this]; rfl
end Go.U.Tryz
namespace Go.U.Tryz
open Go Go.U Go.U.Exp
set_option maxRecDepth 20000
theorem big_ok (K : Nat) (r : List Int × Int) (h : RdOk r) : ∃ v r', F26 K (65536, r) = some (v, r') ∧ RdOk r' := by
  obtain ⟨a, r1, e1, _, k1⟩ := F52_ok K r h
  obtain ⟨b, r2, e2, _, k2⟩ := F52_ok K r1 k1
  unfold F26
  dsimp only
  rw [decide_eq_false (by omega), branch_f, decide_eq_false (by omega), branch_f, e1, bindO_s]
  dsimp only
  rw [e2, bindO_s]
  exact ⟨_, _, rfl, k2⟩
theorem word_loop (K : Nat) : ∀ (N i : Nat) (a : Int) (r : List Int × Int), RdOk r → i ≤ 8 → 8 - i < N → ∃ v r', iter N (F124_b0 K) (a, (i : Int), r) = some (v, r') ∧ RdOk r'
  | 0, _, _, _, _, _, h => absurd h (Nat.not_lt_zero _)
  | N + 1, i, a, r, h, hi, hN => by
    rcases Nat.lt_or_ge i 8 with hlt | hge
    · obtain ⟨v, r1, e1, _, k1⟩ := F52_ok K r h
      have st : F124_b0 K (a, (i : Int), r) = some (.inl (Go.bits Go.BinOp.or Go.IntKind.u64 (shlI Go.IntKind.u64 a 8) (w64u v), ((i + 1 : Nat) : Int), r1)) := by
        unfold F124_b0
        dsimp only
        rw [decide_eq_true (show (i : Int) < 8 by omega), branch_t, e1, bindO_s, show w64 ((i : Int) + 1) = ((i + 1 : Nat) : Int) from w64_id (by omega) (by omega)]
      simp only [iter, st]
      exact word_loop K N (i + 1) _ r1 k1 hlt (by omega)
    · have st : F124_b0 K (a, (i : Int), r) = some (.inr (a, r)) := by
        unfold F124_b0
        dsimp only
        rw [decide_eq_false (by omega)]; rfl
      simp only [iter, st]
      exact ⟨_, _, rfl, h⟩
theorem F124_ok (K : Nat) (hK : 10 < K) (r : List Int × Int) (h : RdOk r) : ∃ v r', F124 K r = some (v, r') ∧ RdOk r' := by
  obtain ⟨v, r', e, k⟩ := word_loop K K 0 0 r h (by omega) (by omega)
  exact ⟨v, r', by unfold F124; rw [show ((0 : Nat) : Int) = 0 from rfl] at e; rw [e]; rfl, k⟩
theorem F90_ok (K : Nat) (hK : 10 < K) (r : List Int × Int) (h : RdOk r) : ∃ v r', F90 K (0, 255, r) = some (v, r') ∧ RdOk r' := by
  obtain ⟨v, r1, e1, _, k1⟩ := F26_ok K 8 r h (by omega) (by omega)
  obtain ⟨w, r2, e2, k2⟩ := F124_ok K hK r1 k1
  unfold F90
  dsimp only
  rw [e1, bindO_s]
  dsimp only
  by_cases c1 : v = 0
  · rw [decide_eq_true c1]; exact ⟨_, _, rfl, k1⟩
  by_cases c2 : v = 1
  · rw [decide_eq_false c1, branch_f, decide_eq_true c2]; exact ⟨_, _, rfl, k1⟩
  rw [decide_eq_false c1, branch_f, decide_eq_false c2, branch_f, decide_eq_false (by omega), branch_f, e2, bindO_s]
  have g : (!(decide ((w64u (w64 ((w64 (255 - 0)) + 1))) = 0))) = true := by kernel_rfl
  rw [g, guard_t]
  exact ⟨_, _, rfl, k2⟩
theorem F57_ok (K : Nat) (hK : 10 < K) (r : List Int × Int) (h : RdOk r) : ∃ v r', F57 K (0, 255, r) = some (v, r') ∧ RdOk r' := by
  obtain ⟨b, r1, e1, k1⟩ := F55_ok K 24 r h (by omega) (by omega)
  unfold F57
  dsimp only
  rw [e1, bindO_s]
  cases b with
  | true =>
    obtain ⟨v, r2, e2, hv, k2⟩ := F26_ok K 4 r1 k1 (by omega) (by omega)
    dsimp only
    rw [branch_t, e2, bindO_s]
    dsimp only
    have hl : v.toNat < [w64 ((0 : Int) - 1), w64 ((255 : Int) + 1), (-9223372036854775808), 9223372036854775807].length := by show v.toNat < 4; omega
    rw [decide_eq_true (show 0 ≤ v ∧ v < ([w64 ((0 : Int) - 1), w64 ((255 : Int) + 1), (-9223372036854775808), 9223372036854775807].length : Int) from ⟨hv.1, hv.2⟩), guard_t, nthN_s (List.getElem?_eq_getElem hl)]
    exact ⟨_, _, rfl, k2⟩
  | false =>
    obtain ⟨v, r2, e2, k2⟩ := F90_ok K hK r1 k1
    dsimp only
    rw [branch_f, e2]
    exact ⟨_, _, rfl, k2⟩
theorem F56_ok (K : Nat) (r : List Int × Int) (h : RdOk r) : ∃ v r', F56 K r = some (v, r') ∧ RdOk r' := by
  obtain ⟨b, r1, e1, k1⟩ := F55_ok K 2 r h (by omega) (by omega)
  unfold F56
  rw [e1, bindO_s]
  cases b with
  | true =>
    obtain ⟨v, r2, e2, hv, k2⟩ := F26_ok K 8 r1 k1 (by omega) (by omega)
    dsimp only
    rw [branch_t, e2, bindO_s]
    dsimp only
    have hl : v.toNat < [(0 : Int), 1, 127, 128, 255, 15, 16, 240].length := by show v.toNat < 8; omega
    rw [decide_eq_true (show 0 ≤ v ∧ v < (8 : Int) from hv), guard_t, nthN_s (List.getElem?_eq_getElem hl)]
    exact ⟨_, _, rfl, k2⟩
  | false =>
    obtain ⟨v, r2, e2, hv, k2⟩ := F26_ok K 256 r1 k1 (by omega) (by omega)
    dsimp only
    rw [branch_f, e2]
    exact ⟨_, _, rfl, k2⟩
theorem cb_lt (cb : Bool) (j : Nat) (hj : j < 256) : cbN cb + j < 512 := by cases cb <;> (unfold cbN; simp; omega)
theorem F29_ok (r : List Int × Int) (h : RdOk r) : ∃ (c : Nat) (cb : Bool) (imm : Int) (r' : List Int × Int), F29 1100 r = some ((c : Int), cb, imm, r') ∧ c < 256 ∧ RdOk r' := by
  obtain ⟨v, r1, e1, hv, k1⟩ := F26_ok 1100 256 r h (by omega) (by omega)
  obtain ⟨cb, r2, e2, k2⟩ := F55_ok 1100 4 r1 k1 (by omega) (by omega)
  obtain ⟨c, rfl⟩ : ∃ c : Nat, v = (c : Int) := ⟨v.toNat, by omega⟩
  have hc : c < 256 := by omega
  have h18 : F18 1100 ((c : Int), cb) = some (tq (cbN cb + c)) := by rw [cb_at cb c hc]; exact t18 _ (cb_lt cb c hc)
  have h19 := t19 _ (cb_lt cb c hc)
  have fin : ∀ (i : Int) (r3 : List Int × Int), RdOk r3 → ∃ (c' : Nat) (cb' : Bool) (imm : Int) (r' : List Int × Int),
      (bindO (F55 1100 (40, r3)) fun v8 => branch v8.1 (bindO (F57 1100 (0, 255, v8.2)) fun v9 => some ((c : Int), cb, v9)) (some ((c : Int), cb, i, v8.2))) = some ((c' : Int), cb', imm, r') ∧ c' < 256 ∧ RdOk r' := by
    intro i r3 k3
    obtain ⟨b, r4, e4, k4⟩ := F55_ok 1100 40 r3 k3 (by omega) (by omega)
    rw [e4, bindO_s]
    cases b with
    | true =>
      obtain ⟨w, r5, e5, k5⟩ := F57_ok 1100 (by omega) r4 k4
      dsimp only
      rw [branch_t, e5]
      exact ⟨c, cb, w, r5, rfl, hc, k5⟩
    | false => exact ⟨c, cb, i, r4, rfl, hc, k4⟩
  unfold F29
  rw [e1, bindO_s]
  dsimp only
  rw [e2, bindO_s]
  dsimp only
  rw [h18, bindO_s, h19, bindO_s]
  cases g1 : decide ((hq (cbN cb + c)).2 = ([110, 49, 54] : List UInt8)) with
  | true =>
    obtain ⟨w, r3, e3, k3⟩ := big_ok 1100 r2 k2
    rw [branch_t, e3, bindO_s]
    exact fin w r3 k3
  | false =>
    rw [branch_f]
    have go : ∀ b : Bool, ∃ (c' : Nat) (cb' : Bool) (imm : Int) (r' : List Int × Int),
      (bindO (branch b (bindO (F56 1100 r2) fun v6 => some ((c : Int), cb, v6.1, (0 : Int), false, (0 : Int), v6.2)) (some ((c : Int), cb, (0 : Int), (0 : Int), false, (0 : Int), r2))) fun v7 =>
        bindO (F55 1100 (40, v7.2.2.2.2.2.2)) fun v8 => branch v8.1 (bindO (F57 1100 (0, 255, v8.2)) fun v9 => some (v7.1, v7.2.1, v9)) (some (v7.1, v7.2.1, v7.2.2.1, v8.2))) = some ((c' : Int), cb', imm, r') ∧ c' < 256 ∧ RdOk r' := by
      intro b
      cases b with
      | true =>
        obtain ⟨w, r3, e3, k3⟩ := F56_ok 1100 r2 k2
        rw [branch_t, e3]
        exact fin w r3 k3
      | false => exact fin 0 r2 k2
    cases g2 : decide ((hq (cbN cb + c)).2 = ([110, 56] : List UInt8)) with
    | true => exact go true
    | false => exact go (decide ((hq (cbN cb + c)).2 = ([101, 56] : List UInt8)))
theorem F16_ok (x : List Int) (hb : ∀ v ∈ x, 0 ≤ v ∧ v ≤ 255) (hl : x.length ≤ 1048576) : ∃ (c : Nat) (cb : Bool) (imm : Int), F16 1100 x = some ((c : Int), cb, imm) ∧ c < 256 := by
  obtain ⟨c, cb, imm, r, e, hc, _⟩ := F29_ok (x, 0) ⟨hb, hl, by simp, by simp⟩
  refine ⟨c, cb, imm, ?_, hc⟩
  unfold F16 F36
  rw [show F25 1100 x = some (x, 0) from rfl, bindO_s, e]
  rfl
theorem F12_ok (x : List Int) (hb : ∀ v ∈ x, 0 ≤ v ∧ v ≤ 255) (hl : x.length ≤ 1048576) : ∃ s, F12 1100 x = some s := by
  unfold F12
  rw [show F25 1100 x = some (x, 0) from rfl, bindO_s]
  obtain ⟨v, r1, e1, hv, k1⟩ := F26_ok 1100 4 (x, 0) ⟨hb, hl, by simp, by simp⟩ (by omega) (by omega)
  rw [e1, bindO_s]
  dsimp only
  obtain ⟨c, cb, imm, r2, e2, hc, k2⟩ := F29_ok r1 k1
  obtain ⟨s, _, e3, hs⟩ := ins_text 1060 (c : Int) imm cb ⟨by omega, by omega⟩
  have e3 : F28 1100 ((c : Int), cb, imm) = some s := e3
  by_cases c1 : v = 0
  · rw [decide_eq_true c1, branch_t, e2, bindO_s]
    dsimp only
    rw [e3, bindO_s]
    obtain ⟨t, r3, e4, _⟩ := F27_ok 1100 s r2 hs k2
    rw [e4]
    exact ⟨_, rfl⟩
  rw [decide_eq_false c1, branch_f]
  by_cases c2 : v = 1
  · rw [decide_eq_true c2, branch_t]
    obtain ⟨u, r3, e4, hu, k3⟩ := F26_ok 1100 6 r1 k1 (by omega) (by omega)
    obtain ⟨p, hp, lp⟩ := small (l := [([108, 100, 32, 97, 44] : List UInt8), ([108, 100, 32, 104, 108, 44] : List UInt8), ([106, 114, 32] : List UInt8), ([108, 100, 32, 91] : List UInt8), ([97, 100, 100, 32, 115, 112, 44] : List UInt8), ([108, 100, 32, 104, 108, 44, 115, 112, 43] : List UInt8)]) (m := 9) hu.1 hu.2 (by decide)
    obtain ⟨q, r4, e5, lq, k4⟩ := infix_ok 1100 2 1100 (by omega) (by omega) r3 k3
    have hbn : bnd 2 ≤ 100 := by decide
    have e5 : F30 1100 (2, r3) = some (q, r4) := e5
    obtain ⟨w, r5, e6, hw, k5⟩ := F26_ok 1100 3 r4 k4 (by omega) (by omega)
    obtain ⟨z, hz, lz⟩ := small (l := [[], ([93] : List UInt8), ([93, 44, 97] : List UInt8)]) (m := 3) hw.1 hw.2 (by decide)
    rw [e4, bindO_s]
    dsimp only
    rw [nth_z hu.1 hp, e5, bindO_s]
    dsimp only
    rw [decide_eq_true (show p.length + q.length ≤ 9223372036854775807 by omega), guard_t, e6, bindO_s]
    dsimp only
    rw [nth_z hw.1 hz, decide_eq_true (show (p ++ q).length + z.length ≤ 9223372036854775807 by rw [List.length_append]; omega), guard_t]
    exact ⟨_, rfl⟩
  · rw [decide_eq_false c2, branch_f, e2, bindO_s]
    dsimp only
    rw [e3]
    exact ⟨_, rfl⟩
end Go.U.Tryz
