/- The reader of drawn bytes always answers, within its bounds. No condition. -/
import Derived.Test.YthiglohhocelfaaPUn
set_option linter.unusedVariables false
set_option linter.unusedSimpArgs false
namespace Go.U.Try
open Go Go.U
set_option linter.unusedVariables false
set_option linter.unusedSimpArgs false

/-- A reader in order: bytes, a place within. -/
def RdOk (r : List Int × Int) : Prop := (∀ v ∈ r.1, 0 ≤ v ∧ v ≤ 255) ∧ r.1.length ≤ 1048576 ∧ 0 ≤ r.2 ∧ r.2 ≤ 1048576

theorem F74_ok (K : Nat) (r : List Int × Int) (h : RdOk r) : ∃ v r', F74 K r = some (v, r') ∧ (0 ≤ v ∧ v ≤ 255) ∧ RdOk r' := by
  obtain ⟨hb, hl, h0, h1⟩ := h
  simp only [F74, branch_ite]
  split
  · exact ⟨0, r, rfl, by omega, hb, hl, h0, h1⟩
  · rename_i g
    obtain ⟨p, hp⟩ : ∃ p : Nat, r.2 = (p : Int) := ⟨r.2.toNat, by omega⟩
    have hp' : p < r.1.length := by omega
    have e1 : w64 (r.2 + 1) = r.2 + 1 := w64_id (by omega) (by omega)
    have e2 : w64 (r.2 + 1 - 1) = (p : Int) := by rw [w64_id (by omega) (by omega)]; omega
    have hv := List.getElem?_eq_getElem hp'
    have hb' := hb _ (List.getElem_mem hp')
    simp only [e1, e2, nth_s hv]
    refine ⟨_, _, rfl, ?_, hb, hl, by simp; omega, by simp; omega⟩
    rw [w64_id (by omega) (by omega)]
    exact hb'

theorem F52_ok (K : Nat) (n : Int) (r : List Int × Int) (h : RdOk r) (hn : 2 ≤ n) (hn' : n ≤ 256) : ∃ v r', F52 K (n, r) = some (v, r') ∧ (0 ≤ v ∧ v < n) ∧ RdOk r' := by
  obtain ⟨v, r', e, hv, hr⟩ := F74_ok K r h
  have e0 : ¬ n ≤ 1 := by omega
  have e1 : (!(decide (n = 0))) = true := by rw [decide_eq_false (by omega)]; rfl
  simp only [F52, branch_ite, if_neg e0, if_pos hn', e, bindO_s, e1, guard_t]
  exact ⟨_, _, rfl, ⟨Int.tmod_nonneg _ (by omega), Int.tmod_lt_of_pos _ (by omega)⟩, hr⟩

theorem F57_ok (K : Nat) (n : Int) (r : List Int × Int) (h : RdOk r) (hn : 2 ≤ n) (hn' : n ≤ 256) : ∃ b r', F57 K (n, r) = some (b, r') ∧ RdOk r' := by
  obtain ⟨v, r', e, hv, hr⟩ := F52_ok K n r h hn hn'
  simp only [F57, e, bindO_s]
  exact ⟨_, _, rfl, hr⟩

theorem F93_ok (K : Nat) (r : List Int × Int) (h : RdOk r) (hK : 8 < K) : ∃ v r', F93 K r = some (v, r') ∧ RdOk r' := by
  obtain ⟨b, h1, h2⟩ := iter_inv (f := F93_b0 K) (fun a => 0 ≤ a.2.1 ∧ a.2.1 ≤ 8 ∧ RdOk a.2.2) (fun a => (8 - a.2.1).toNat) (fun b => RdOk b.2) (fun a ⟨g0, g1, g2⟩ => by
    by_cases g : a.2.1 < 8
    · obtain ⟨v, r', e, hv, hr⟩ := F74_ok K a.2.2 g2
      have e1 : w64 (a.2.1 + 1) = a.2.1 + 1 := w64_id (by omega) (by omega)
      refine .inl ⟨_, by simp only [F93_b0, branch_ite, if_pos g, e, bindO_s, e1] <;> rfl, ⟨by simp; omega, by simp; omega, hr⟩, by simp; omega⟩
    · exact .inr ⟨(a.1, a.2.2), by simp only [F93_b0, branch_ite, if_neg g] <;> rfl, g2⟩) K (0, 0, r) ⟨by simp, by simp, h⟩ (by simpa using hK)
  exact ⟨b.1, b.2, by simp only [F93, h1, bindO_s], h2⟩

theorem F87_ok (K : Nat) (lo hi : Int) (r : List Int × Int) (h : RdOk r) (hK : 8 < K) (hlo : 0 ≤ lo) (hh : lo ≤ hi) (hi' : hi ≤ 65535) : ∃ v r', F87 K (lo, hi, r) = some (v, r') ∧ RdOk r' := by
  obtain ⟨v, r', e, hv, hr⟩ := F52_ok K 8 r h (by omega) (by omega)
  simp only [F87, e, bindO_s, branch_ite]
  split
  · exact ⟨_, _, rfl, hr⟩
  split
  · exact ⟨_, _, rfl, hr⟩
  split
  · exact ⟨_, _, rfl, hr⟩
  obtain ⟨w, r2, e2, hr2⟩ := F93_ok K r' hr hK
  have e3 : w64 (hi - lo) = hi - lo := w64_id (by omega) (by omega)
  have e4 : w64 (hi - lo + 1) = hi - lo + 1 := w64_id (by omega) (by omega)
  have e5 : w64u (hi - lo + 1) = hi - lo + 1 := w64u_id (by omega) (by omega)
  have e6 : (!(decide (hi - lo + 1 = 0))) = true := by rw [decide_eq_false (by omega)]; rfl
  simp only [e2, bindO_s, e3, e4, e5, e6, guard_t]
  exact ⟨_, _, rfl, hr2⟩

theorem F73_ok (K : Nat) (r : List Int × Int) (h : RdOk r) (hK : 8 < K) : ∃ v r', F73 K (0, 255, r) = some (v, r') ∧ RdOk r' := by
  obtain ⟨b, r', e, hr⟩ := F57_ok K 24 r h (by omega) (by omega)
  simp only [F73, e, bindO_s]
  cases b with
  | true =>
    obtain ⟨v, r2, e2, hv, hr2⟩ := F52_ok K 4 r' hr (by omega) (by omega)
    simp only [branch_t, e2, bindO_s]
    obtain ⟨q, hq⟩ : ∃ q : Nat, v = (q : Int) := ⟨v.toNat, by omega⟩
    have hq4 : q < 4 := by omega
    subst hq
    rw [guard_dec ⟨by omega, by simp; omega⟩]
    have : ([w64 (0 - 1), w64 (255 + 1), -9223372036854775808, 9223372036854775807] : List Int)[q]? = some (([w64 (0 - 1), w64 (255 + 1), -9223372036854775808, 9223372036854775807] : List Int)[q]'(by simpa using hq4)) := List.getElem?_eq_getElem _
    rw [Int.toNat_natCast, nthN_s this]
    exact ⟨_, _, rfl, hr2⟩
  | false =>
    obtain ⟨v, r2, e2, hr2⟩ := F87_ok K 0 255 r' hr hK (by omega) (by omega) (by omega)
    simp only [branch_f, e2, bindO_s]
    exact ⟨_, _, rfl, hr2⟩

theorem F51_ok (K : Nat) (r : List Int × Int) (h : RdOk r) (hK : 8 < K) : ∃ l r', F51 K r = some (l, r') ∧ RdOk r' ∧ l.length ≤ 6 := by
  obtain ⟨b, h1, h2, h3⟩ := iter_inv (f := F51_b0 K) (fun a => 0 ≤ a.1 ∧ a.1 ≤ 6 ∧ (a.2.1.length : Int) ≤ a.1 ∧ a.2.2.1 = [[97], [97, 98], [97, 98, 99], [98], [99], [120]] ∧ RdOk a.2.2.2) (fun a => (6 - a.1).toNat) (fun b => RdOk b.2 ∧ b.1.length ≤ 6) (fun a ⟨g0, g1, g2, g3, g4⟩ => by
    obtain ⟨i, l, ts, rd⟩ := a
    simp only at g0 g1 g2 g3 g4
    subst g3
    by_cases g : i < 6
    · obtain ⟨b, r1, e, hr⟩ := F57_ok K 4 rd g4 (by omega) (by omega)
      have e1 : w64 (i + 1) = i + 1 := w64_id (by omega) (by omega)
      have g' : i < (([[97], [97, 98], [97, 98, 99], [98], [99], [120]] : List (List UInt8)).length : Int) := by simpa using g
      cases b with
      | true => exact .inl ⟨_, by simp only [F51_b0, branch_ite, if_pos g', e, bindO_s, Bool.not_true, branch_f, e1] <;> rfl, ⟨by simp; omega, by simp; omega, by simp; omega, rfl, hr⟩, by simp; omega⟩
      | false =>
        obtain ⟨v, r2, e2, hv, hr2⟩ := F52_ok K 8 r1 hr (by omega) (by omega)
        have hq : i.toNat < ([[97], [97, 98], [97, 98, 99], [98], [99], [120]] : List (List UInt8)).length := by simp; omega
        refine .inl ⟨_, by simp only [F51_b0, branch_ite, if_pos g', e, bindO_s, Bool.not_false, branch_t, e1, guard_dec (And.intro g0 g'), nthN_s (List.getElem?_eq_getElem hq), e2, guard_dec (show (l.length + [(([[97], [97, 98], [97, 98, 99], [98], [99], [120]] : List (List UInt8))[i.toNat], v)].length) * 24 ≤ 140737488355328 from by simp; omega), fitN] <;> rfl, ⟨by simp; omega, by simp; omega, by simp; omega, rfl, hr2⟩, by simp; omega⟩
    · have g' : ¬ i < (([[97], [97, 98], [97, 98, 99], [98], [99], [120]] : List (List UInt8)).length : Int) := by simpa using g
      exact .inr ⟨_, by simp only [F51_b0, branch_ite, if_neg g'] <;> rfl, g4, by simp; omega⟩) K (0, [], [[97], [97, 98], [97, 98, 99], [98], [99], [120]], r) ⟨by simp, by simp, by simp, rfl, h⟩ (by simp; omega)
  simp only [F51, h1, bindO_s]
  obtain ⟨c, r2, e2, hr2⟩ := F57_ok K 30 b.2 h2 (by omega) (by omega)
  simp only [e2, bindO_s]
  cases c with
  | false => exact ⟨_, _, rfl, hr2, h3⟩
  | true =>
    simp only [branch_t, bindO_s, branch_ite]
    split
    · rename_i g
      obtain ⟨v, r3, e3, hr3⟩ := F73_ok K r2 hr2 hK
      have hg : 0 < b.1.length := by omega
      simp only [e3, bindO_s, guard_dec (And.intro (Int.le_refl (0 : Int)) g), nthN_s (List.getElem?_eq_getElem hg)]
      exact ⟨_, _, rfl, hr3, by simpa using h3⟩
    · exact ⟨_, _, rfl, hr2, h3⟩

theorem F23_ok (K : Nat) (x : List Int) (hb : ∀ v ∈ x, 0 ≤ v ∧ v ≤ 255) (hl : x.length ≤ 1048576) (hK : 8 < K) : ∃ l s, F23 K x = some (l, s) ∧ l.length ≤ 6 ∧ s.length ≤ 24 := by
  obtain ⟨l, r1, e1, hr1, hl6⟩ := F51_ok K (x, 0) ⟨hb, hl, by simp, by simp⟩ hK
  obtain ⟨n, r2, e2, hn, hr2⟩ := F52_ok K 8 r1 hr1 (by omega) (by omega)
  obtain ⟨b, h1, h2, h3⟩ := iter_inv (f := F23_b0 K) (fun a => a.1 = l ∧ 0 ≤ a.2.2.1 ∧ a.2.2.1 < 8 ∧ (a.2.1.length : Int) ≤ 8 - a.2.2.1 ∧ RdOk a.2.2.2) (fun a => a.2.2.1.toNat) (fun b => b.1 = l ∧ b.2.length ≤ 24) (fun a ⟨g0, g1, g2, g3, g4⟩ => by
    obtain ⟨l', s, i, rd⟩ := a
    simp only at g0 g1 g2 g3 g4
    subst g0
    by_cases g : 0 < i
    · obtain ⟨v, r3, e3, hv, hr3⟩ := F52_ok K 8 rd g4 (by omega) (by omega)
      have e4 : w64 (i - 1) = i - 1 := w64_id (by omega) (by omega)
      have g5 : s.length + (toB [w8 v]).length ≤ 9223372036854775807 := by simp [toB]; omega
      refine .inl ⟨_, by simp only [F23_b0, branch_ite, if_pos g, e3, bindO_s, e4, guard_dec g5] <;> rfl, ⟨rfl, by simp; omega, by simp; omega, by simp [toB]; omega, hr3⟩, by simp; omega⟩
    · exact .inr ⟨_, by simp only [F23_b0, branch_ite, if_neg g] <;> rfl, rfl, by simp; omega⟩) K (l, [], n, r2) ⟨rfl, by simp; omega, by simp; omega, by simp; omega, hr2⟩ (by simp; omega)
  refine ⟨l, b.2, ?_, hl6, h3⟩
  simp only [F23, F50, e1, e2, bindO_s, h1]
  rw [← h2]

theorem F26_ok (K : Nat) (x : List Int) (hb : ∀ v ∈ x, 0 ≤ v ∧ v ≤ 255) (hl : x.length ≤ 1048576) (hK : 8 < K) : ∃ l s, F26 K x = some (l, s) ∧ l.length ≤ 6 ∧ s.length ≤ 24 := by
  obtain ⟨l, r1, e1, hr1, hl6⟩ := F51_ok K (x, 0) ⟨hb, hl, by simp, by simp⟩ hK
  obtain ⟨n, r2, e2, hn, hr2⟩ := F52_ok K 8 r1 hr1 (by omega) (by omega)
  obtain ⟨b, h1, h2, h3⟩ := iter_inv (f := F26_b0 K) (fun a => a.1 = l ∧ 0 ≤ a.2.2.1 ∧ a.2.2.1 < 8 ∧ (a.2.1.length : Int) ≤ 3 * (8 - a.2.2.1) ∧ RdOk a.2.2.2) (fun a => a.2.2.1.toNat) (fun b => b.1 = l ∧ b.2.length ≤ 24) (fun a ⟨g0, g1, g2, g3, g4⟩ => by
    obtain ⟨l', s, i, rd⟩ := a
    simp only at g0 g1 g2 g3 g4
    subst g0
    by_cases g : 0 < i
    · obtain ⟨v, r3, e3, hv, hr3⟩ := F52_ok K 7 rd g4 (by omega) (by omega)
      have e4 : w64 (i - 1) = i - 1 := w64_id (by omega) (by omega)
      have hq : v.toNat < ([[97], [97, 98], [97, 98, 99], [98], [99], [120], [122]] : List (List UInt8)).length := by simp; omega
      have h7 : ∀ t ∈ ([[97], [97, 98], [97, 98, 99], [98], [99], [120], [122]] : List (List UInt8)), t.length ≤ 3 := by simp
      have h7' := h7 _ (List.getElem_mem hq)
      have g5 : s.length + (([[97], [97, 98], [97, 98, 99], [98], [99], [120], [122]] : List (List UInt8))[v.toNat]).length ≤ 9223372036854775807 := by omega
      refine .inl ⟨_, by simp only [F26_b0, branch_ite, if_pos g, e3, bindO_s, guard_dec hv, nthN_s (List.getElem?_eq_getElem hq), e4, guard_dec g5] <;> rfl, ⟨rfl, by simp; omega, by simp; omega, by simp only [List.length_append]; omega, hr3⟩, by simp; omega⟩
    · exact .inr ⟨_, by simp only [F26_b0, branch_ite, if_neg g] <;> rfl, rfl, by simp; omega⟩) K (l, [], n, r2) ⟨rfl, by simp; omega, by simp; omega, by simp; omega, hr2⟩ (by simp; omega)
  refine ⟨l, b.2, ?_, hl6, h3⟩
  simp only [F26, F50, e1, e2, bindO_s, h1]
  rw [← h2]

end Go.U.Try
