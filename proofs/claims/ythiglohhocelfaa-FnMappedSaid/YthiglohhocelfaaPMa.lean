/- The laws of Unmapped and Mapped, over the told functions. No condition. -/
import Derived.Test.YthiglohhocelfaaPDr
set_option linter.unusedVariables false
set_option linter.unusedSimpArgs false
namespace Go.U.Try
open Go Go.U
set_option linter.unusedVariables false
set_option linter.unusedSimpArgs false

/-! ### What is told of bytes -/

def um (l : List Pr) : List UInt8 → Option (List UInt8)
  | [] => some []
  | c :: s => if findI l (c.toNat : Int) 0 < 0 then none else
      match l[(findI l (c.toNat : Int) 0).toNat]?, um l s with
      | some v, some t => some (v.1 ++ t)
      | _, _ => none

theorem um_app (l : List Pr) : ∀ (a b t : List UInt8), um l (a ++ b) = some t → ∃ x y, um l a = some x ∧ um l b = some y ∧ t = x ++ y
  | [], b, t, h => ⟨[], t, rfl, h, rfl⟩
  | c :: a, b, t, h => by
    simp only [List.cons_append, um] at h ⊢
    split at h
    · cases h
    · rename_i g
      rw [if_neg g]
      split at h
      · rename_i v t' hv ht
        obtain ⟨x, y, h1, h2, h3⟩ := um_app l a b t' ht
        subst h3
        refine ⟨v.1 ++ x, y, ?_, h2, ?_⟩
        · rw [hv, h1]
        · cases h; simp
      · cases h

theorem um_len (l : List Pr) (h1 : ∀ (i : Nat) v, l[i]? = some v → 1 ≤ v.1.length ∧ v.1.length ≤ 4) : ∀ (s t : List UInt8), um l s = some t → s.length ≤ t.length ∧ t.length ≤ 4 * s.length
  | [], t, h => by cases h; simp
  | c :: s, t, h => by
    simp only [um] at h
    split at h
    · cases h
    · split at h
      · rename_i v t' hv ht
        have := um_len l h1 s t' ht
        have := h1 _ v hv
        cases h
        simp
        omega
      · cases h

theorem bothM (K' : Nat) (l : List Pr) (s : List UInt8) (hl : l.length ≤ 16) (hs : s.length ≤ 20000) (h4 : ∀ (i : Nat) v, l[i]? = some v → 1 ≤ v.1.length ∧ v.1.length ≤ 4) (hK' : 20 < K') : ∀ (K p : Nat) (xs : List Int), p ≤ s.length → s.length - p < K → xs.length ≤ 4 * p →
    iter K (F20_b0 K') (l, s, toB xs, (p : Int)) = some (match um l (s.drop p) with | none => .inl ([], false) | some t => .inr (toB xs ++ t)) ∧
    iter K (F21_b0 K') (l, (s.length : Int), (p : Int), ofB s, xs) = some (match um l (s.drop p) with | none => .inl ([], false) | some t => .inr (xs ++ ofB t))
  | 0, p, xs, _, h, _ => absurd h (Nat.not_lt_zero _)
  | K + 1, p, xs, hp, hK, hx => by
    by_cases h1 : p < s.length
    · have i1 : (p : Int) < (s.length : Int) := by omega
      have hb := List.getElem?_eq_getElem h1
      have hb' : (ofB s)[p]? = some (s[p].toNat : Int) := by simp [ofB, hb]
      have e3 : w64 ((p : Int) + 1) = ((p + 1 : Nat) : Int) := by rw [w64_id (by omega) (by omega)]; omega
      have g0 : (0 : Int) ≤ (p : Int) ∧ (p : Int) < ((ofB s).length : Int) := by simp [ofB]; omega
      have s1 := iter20 K' l s (toB xs) p s[p] hb (by omega) K' 0 (-1) (by omega) (by omega)
      have s2 := iter48 K' l s[p] (by omega) K' 0 (by omega) (by omega)
      rw [if_pos (by omega)] at s1
      replace s1 : iter K' (F20_b1 K') (l, s, toB xs, (p : Int), -1, 0) = _ := s1
      replace s2 : iter K' (F48_b0 K') (l, (l.length : Int), 0, (s[p].toNat : Int)) = _ := s2
      have hlt := findI_lt l (s[p].toNat : Int) 0
      rw [List.drop_eq_getElem_cons h1, um]
      by_cases hf : findI l (s[p].toNat : Int) 0 < 0
      · rw [if_pos hf] at s1 s2 ⊢
        have m1 : (-1 : Int) < 0 := by omega
        refine ⟨iter_inr ?_, iter_inr ?_⟩
        · simp only [F20_b0, branch_ite, if_pos i1, s1, bindO_s, if_pos m1]
        · simp only [F21_b0, branch_ite, if_pos i1, guard_dec g0, Int.toNat_natCast, nthN_s hb', F48, s2, bindO_s, csO_r, if_pos m1]
      · rw [if_neg hf] at s1 s2 ⊢
        obtain ⟨q, hq⟩ : ∃ q : Nat, findI l (s[p].toNat : Int) 0 = (q : Int) := ⟨(findI l (s[p].toNat : Int) 0).toNat, by omega⟩
        rw [hq] at s1 s2 hlt hf ⊢
        have hql : q < l.length := by omega
        have hv := List.getElem?_eq_getElem hql
        have h44 := h4 q _ hv
        have g1 : (toB xs).length + l[q].1.length ≤ 9223372036854775807 := by rw [toB_len]; omega
        have ih := bothM K' l s hl hs h4 hK' K (p + 1) (xs ++ ofB l[q].1) (by omega) (by omega) (by simp [ofB]; omega)
        rw [toB_app, toB_of] at ih
        have t1 : F20_b0 K' (l, s, toB xs, (p : Int)) = some (.inl (l, s, toB xs ++ l[q].1, ((p + 1 : Nat) : Int))) := by
          simp only [F20_b0, branch_ite, if_pos i1, s1, bindO_s, if_neg hf, nth_s hv, guard_dec g1, e3]
        have t2 : F21_b0 K' (l, (s.length : Int), (p : Int), ofB s, xs) = some (.inl (l, (s.length : Int), ((p + 1 : Nat) : Int), ofB s, xs ++ ofB l[q].1)) := by
          simp only [F21_b0, branch_ite, if_pos i1, guard_dec g0, Int.toNat_natCast, nthN_s hb', F48, s2, bindO_s, csO_l, if_neg hf, nth_s hv, F45_eq K' l[q].1 xs (by omega), e3]
        rw [iter_inl t1, iter_inl t2, ih.1, ih.2, Int.toNat_natCast, hv]
        cases um l (s.drop (p + 1)) with
        | none => (first | exact ⟨rfl, rfl⟩ | exact ⟨trivial, rfl⟩ | exact ⟨rfl, trivial⟩ | simp)
        | some t => simp [ofB]
    · have i1 : ¬ (p : Int) < (s.length : Int) := by omega
      rw [List.drop_eq_nil_of_le (by omega)]
      refine ⟨iter_inr ?_, iter_inr ?_⟩
      · simp only [F20_b0, branch_ite, if_neg i1, um, List.append_nil]
      · simp only [F21_b0, branch_ite, if_neg i1, um, ofB, List.map_nil, List.append_nil]

theorem okAt_all {l : List Pr} (hc : charsOk l = true) : l.length ≤ 16 ∧ ∀ (i : Nat) v, l[i]? = some v → (1 ≤ v.1.length ∧ v.1.length ≤ 4) ∧ 0 ≤ v.2 ∧ v.2 ≤ 255 := by
  simp only [charsOk, Bool.and_eq_true, decide_eq_true_eq] at hc
  refine ⟨by omega, fun i v hv => ?_⟩
  have hi := (List.getElem?_eq_some_iff.1 hv).1
  have := List.all_eq_true.1 hc.1 i (by simpa using hi)
  simp only [okAt, hv, Bool.and_eq_true, inR, decide_eq_true_eq] at this
  omega

/-- What Unmapped answers. -/
def umR (l : List Pr) (s : List UInt8) : List UInt8 × Bool :=
  cond (charsOk l && decide (s.length ≤ 20000)) (match um l s with | some t => (t, true) | none => ([], false)) ([], false)

theorem umR_eq (K : Nat) (l : List Pr) (s : List UInt8) (hl : l.length ≤ 1048576) (hK : l.length + 20050 < K) : F20 K (l, s) = some (umR l s) ∧ F21 K (l, s) = some (umR l s) := by
  have hl' : l.length ≤ maxLen := by unfold maxLen; omega
  simp only [F20, F21, F14_eq K l hl' (by omega), F16_eq K l hl' (by omega), bindO_s, umR]
  cases hc : charsOk l with
  | false => (first | exact ⟨rfl, rfl⟩ | exact ⟨trivial, rfl⟩ | exact ⟨rfl, trivial⟩ | simp)
  | true =>
    simp only [Bool.not_true, branch_f, bindO_s, Bool.true_and]
    by_cases h1 : (20000 : Int) < (s.length : Int)
    · have h2 : ¬ s.length ≤ 20000 := by omega
      simp only [decide_eq_true h1, branch_t, bindO_s, csO_l, decide_eq_false h2, cond]
      (first | exact ⟨rfl, rfl⟩ | exact ⟨trivial, rfl⟩ | exact ⟨rfl, trivial⟩ | simp)
    · have h2 : s.length ≤ 20000 := by omega
      simp only [decide_eq_false h1, branch_f, bindO_s, csO_r, decide_eq_true h2, cond]
      obtain ⟨h16, h4⟩ := okAt_all hc
      have hb := bothM K l s (by omega) (by omega) (fun i v hv => (h4 i v hv).1) (by omega) K 0 [] (Nat.zero_le _) (by omega) (by simp)
      have hlen : ((ofB s).length : Int) = (s.length : Int) := by simp [ofB]
      rw [hlen]
      obtain ⟨b1, b2⟩ := hb
      replace b1 : iter K (F20_b0 K) (l, s, [], 0) = _ := b1
      replace b2 : iter K (F21_b0 K) (l, (s.length : Int), 0, ofB s, []) = _ := b2
      rw [b1, b2, List.drop_zero]
      cases hu : um l s with
      | none => (first | exact ⟨rfl, rfl⟩ | exact ⟨trivial, rfl⟩ | exact ⟨rfl, trivial⟩ | simp)
      | some t =>
        have := um_len l (fun i v hv => (h4 i v hv).1) s t hu
        simp only [bindO_s, csO_r, List.nil_append, F47_eq K (ofB t) (by simp [ofB]; omega), toB_of]
        (first | exact ⟨rfl, rfl⟩ | exact ⟨trivial, rfl⟩ | exact ⟨rfl, trivial⟩ | simp)

theorem F6_true (x : List Int) (hb : ∀ v ∈ x, 0 ≤ v ∧ v ≤ 255) (hx : x.length ≤ maxLen) : F6 30000 x = some true := by
  simp only [F6, F22, bindO_s, branch_ite]
  split
  · rfl
  · rename_i g
    obtain ⟨l, s, e, h6, h24⟩ := F23_ok 30000 x hb (by omega) (by omega)
    have e1 := umR_eq 30000 l s (by omega) (by omega)
    have e5 : w64 ((s.length : Int) + 1) = (s.length : Int) + 1 := w64_id (by omega) (by omega)
    have t0 : 0 ≤ Int.tmod (x.length : Int) ((s.length : Int) + 1) := Int.tmod_nonneg _ (by omega)
    have t1 : Int.tmod (x.length : Int) ((s.length : Int) + 1) < (s.length : Int) + 1 := Int.tmod_lt_of_pos _ (by omega)
    generalize hq : Int.tmod (x.length : Int) ((s.length : Int) + 1) = q at t0 t1
    have e2 := (umR_eq 30000 l (s.take q.toNat) (by omega) (by omega)).2
    have e3 := (umR_eq 30000 l (s.drop q.toNat) (by omega) (by omega)).2
    have n0 : (!(decide ((s.length : Int) + 1 = 0))) = true := by rw [decide_eq_false (by omega)]; rfl
    have g1 : 0 ≤ q ∧ q ≤ (s.length : Int) := by omega
    simp only [e, bindO_s, e1.1, e1.2, decide_true, Bool.not_true, branch_f]
    cases h2 : (umR l s).2 with
    | false => simp [branch_t, bindO_s, csO_l, h2, branch_ite]
    | true =>
      simp only [Bool.not_true, branch_f, bindO_s, csO_r, e5, n0, guard_t, hq, guard_dec g1, tkL, dpL, e2, e3]
      have hc : charsOk l = true ∧ ∃ t, um l s = some t ∧ umR l s = (t, true) := by
        simp only [umR] at h2 ⊢
        cases c : charsOk l with
        | false => simp [c] at h2
        | true =>
          refine ⟨rfl, ?_⟩
          have c2 : decide (s.length ≤ 20000) = true := decide_eq_true (by omega)
          rw [c, c2] at h2
          rw [c2]
          cases hu : um l s with
          | none => simp [hu] at h2
          | some t => exact ⟨t, rfl, rfl⟩
      obtain ⟨hc, t, hu, hR⟩ := hc
      obtain ⟨h16, h4⟩ := okAt_all hc
      have hl := um_len l (fun i v hv => (h4 i v hv).1) s t hu
      have hs : s.take q.toNat ++ s.drop q.toNat = s := List.take_append_drop _ _
      rw [← hs] at hu
      obtain ⟨a, b, ha, hb, hab⟩ := um_app l _ _ _ hu
      have ra : umR l (s.take q.toNat) = (a, true) := by
        have c2 : decide ((s.take q.toNat).length ≤ 20000) = true := decide_eq_true (by simp; omega)
        simp only [umR, hc, c2, ha, Bool.and_self, cond]
      have rb : umR l (s.drop q.toNat) = (b, true) := by
        have c2 : decide ((s.drop q.toNat).length ≤ 20000) = true := decide_eq_true (by simp; omega)
        simp only [umR, hc, c2, hb, Bool.and_self, cond]
      have g2 : a.length + b.length ≤ 9223372036854775807 := by rw [hab] at hl; simp at hl; omega
      have g3 : (s.length : Int) ≤ (t.length : Int) := by omega
      simp only [ra, rb, hR, branch_t, guard_dec g2, ← hab, decide_true, decide_eq_true g3, branch_ite, if_true]

theorem fnUnmapped_law (a0 : T34.den) (h0 : T34.ok a0) : ∃ K, A6 K a0 = some true :=
  ⟨_, F6_true a0 (fun v hv => by have := h0.2 v hv; simp only [Ty.ok] at this; exact ⟨this.1, this.2⟩) h0.1⟩

end Go.U.Try
