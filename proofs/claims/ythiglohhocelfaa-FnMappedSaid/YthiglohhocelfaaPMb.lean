/- The laws of Mapped, over the told functions. No condition. -/
import Derived.Test.YthiglohhocelfaaPMa
set_option linter.unusedVariables false
set_option linter.unusedSimpArgs false
namespace Go.U.Try
open Go Go.U
set_option linter.unusedVariables false
set_option linter.unusedSimpArgs false

def pre (a t : List UInt8) : Bool := decide (t.take a.length = a)
def bst (t : List UInt8) : List Pr → Pr → Pr
  | [], b => b
  | p :: l, b => bst t l (cond (pre p.1 t && decide (b.1.length < p.1.length)) p b)

theorem bst_mem (t : List UInt8) : ∀ (l : List Pr) (b : Pr), bst t l b = b ∨ bst t l b ∈ l
  | [], b => .inl rfl
  | p :: l, b => by
    simp only [bst]
    rcases bst_mem t l (cond (pre p.1 t && decide (b.1.length < p.1.length)) p b) with h | h
    · rw [h]
      cases (pre p.1 t && decide (b.1.length < p.1.length)) with
      | true => exact .inr List.mem_cons_self
      | false => exact .inl rfl
    · exact .inr (List.mem_cons_of_mem _ h)

theorem bst_pre (t : List UInt8) : ∀ (l : List Pr) (b : Pr), pre b.1 t = true → pre (bst t l b).1 t = true
  | [], b, h => h
  | p :: l, b, h => by
    simp only [bst]
    apply bst_pre t l
    cases h2 : pre p.1 t with
    | false => exact h
    | true =>
      cases decide (b.1.length < p.1.length) with
      | true => exact h2
      | false => exact h

theorem pre_len {a t : List UInt8} (h : pre a t = true) : a.length ≤ t.length := by
  have := of_decide_eq_true h
  have h2 := congrArg List.length this
  simp at h2
  omega
theorem pre_not {a t : List UInt8} (h : t.length < a.length) : pre a t = false := by
  cases h2 : pre a t with
  | false => rfl
  | true => have := pre_len h2; omega

theorem F54_eq (K : Nat) (s a : List UInt8) : F54 K (s, a) = some (pre a s) := by
  by_cases h : (a.length : Int) ≤ (s.length : Int)
  · have g : 0 ≤ (a.length : Int) ∧ (a.length : Int) ≤ (s.length : Int) := by omega
    simp only [F54, F75, branch_ite, if_pos h, guard_dec g, bindO_s, tkL, Int.toNat_natCast, pre] <;> rfl
  · have : pre a s = false := pre_not (by omega)
    simp only [F54, F75, branch_ite, if_neg h, bindO_s, this]

/-- The index of the best so far. -/
def Bi (l : List Pr) (n : Int) (b : Pr) : Prop := (n = -1 ∧ b = ([], 0)) ∨ ∃ q : Nat, n = (q : Int) ∧ l[q]? = some b

theorem step53 (K' : Nat) (l : List Pr) (s : List UInt8) (p i : Nat) (best : Int) (b : Pr) (hl : l.length ≤ 16) (hs : s.length ≤ 20000) (h4 : ∀ (i : Nat) v, l[i]? = some v → 1 ≤ v.1.length ∧ v.1.length ≤ 4)
    (hp : p ≤ s.length) (hi : i < l.length) (hb : Bi l best b) :
    F53_b0 K' (l, s, (p : Int), best, (i : Int)) = some (.inl (l, s, (p : Int), cond (pre l[i].1 (s.drop p) && decide (b.1.length < l[i].1.length)) (i : Int) best, ((i + 1 : Nat) : Int))) := by
  have i1 : (i : Int) < (l.length : Int) := by omega
  have e3 : w64 ((i : Int) + 1) = ((i + 1 : Nat) : Int) := by rw [w64_id (by omega) (by omega)]; omega
  have hv := List.getElem?_eq_getElem hi
  have h44 := h4 i _ hv
  have e4 : w64 ((p : Int) + (l[i].1.length : Int)) = ((p + l[i].1.length : Nat) : Int) := by rw [w64_id (by omega) (by omega)]; omega
  simp only [F53_b0, branch_ite, if_pos i1, nth_s hv, e4, e3]
  by_cases g : ((p + l[i].1.length : Nat) : Int) ≤ (s.length : Int)
  · have g2 : 0 ≤ (p : Int) ∧ (p : Int) ≤ ((p + l[i].1.length : Nat) : Int) ∧ ((p + l[i].1.length : Nat) : Int) ≤ (s.length : Int) := by omega
    have e5 : subL s (p : Int) ((p + l[i].1.length : Nat) : Int) = (s.drop p).take l[i].1.length := by
      simp only [subL, Int.toNat_natCast]; congr 1; omega
    rw [if_pos g, guard_dec g2, e5]
    by_cases g3 : (s.drop p).take l[i].1.length = l[i].1
    · have e6 : pre l[i].1 (s.drop p) = true := decide_eq_true g3
      rw [if_pos g3, e6]
      rcases hb with ⟨rfl, rfl⟩ | ⟨q, rfl, hq⟩
      · have m1 : (-1 : Int) < 0 := by omega
        have e7 : decide (([] : List UInt8).length < l[i].1.length) = true := decide_eq_true (by simp; omega)
        simp only [if_pos m1, bindO_s, branch_t, e7, Bool.and_self, cond, e3]
      · have m1 : ¬ (q : Int) < 0 := by omega
        simp only [if_neg m1, nth_s hq, bindO_s, Bool.true_and, e3]
        by_cases g7 : b.1.length < l[i].1.length
        · have g8 : (b.1.length : Int) < (l[i].1.length : Int) := by omega
          rw [decide_eq_true g7, decide_eq_true g8]; rfl
        · have g8 : ¬ (b.1.length : Int) < (l[i].1.length : Int) := by omega
          rw [decide_eq_false g7, decide_eq_false g8]; rfl
    · have e6 : pre l[i].1 (s.drop p) = false := decide_eq_false g3
      rw [if_neg g3, e6]
      simp only [bindO_s, branch_f, Bool.false_and, cond, e3]
  · have e6 : pre l[i].1 (s.drop p) = false := pre_not (by rw [List.length_drop]; omega)
    rw [if_neg g, e6]
    simp only [bindO_s, branch_f, Bool.false_and, cond, e3]

theorem iter53 (K' : Nat) (l : List Pr) (s : List UInt8) (p : Nat) (hl : l.length ≤ 16) (hs : s.length ≤ 20000) (h4 : ∀ (i : Nat) v, l[i]? = some v → 1 ≤ v.1.length ∧ v.1.length ≤ 4) (hp : p ≤ s.length) :
    ∀ (K i : Nat) (best : Int) (b : Pr), i ≤ l.length → l.length - i < K → Bi l best b → ∃ n, iter K (F53_b0 K') (l, s, (p : Int), best, (i : Int)) = some n ∧ Bi l n (bst (s.drop p) (l.drop i) b)
  | 0, i, _, _, _, h, _ => absurd h (Nat.not_lt_zero _)
  | K + 1, i, best, b, hi, hK, hb => by
    by_cases h1 : i < l.length
    · rw [iter_inl (step53 K' l s p i best b hl hs h4 hp h1 hb), List.drop_eq_getElem_cons h1, bst]
      refine iter53 K' l s p hl hs h4 hp K (i + 1) _ _ (by omega) (by omega) ?_
      cases (pre l[i].1 (s.drop p) && decide (b.1.length < l[i].1.length)) with
      | true => exact .inr ⟨i, rfl, List.getElem?_eq_getElem h1⟩
      | false => exact hb
    · have i1 : ¬ (i : Int) < (l.length : Int) := by omega
      have hd : l.drop i = [] := List.drop_eq_nil_of_le (by omega)
      rw [hd]
      exact ⟨best, iter_inr (by simp only [F53_b0, branch_ite, if_neg i1]), hb⟩

theorem iter25 (K' : Nat) (l : List Pr) (s : List UInt8) (xs : List Int) (hl : l.length ≤ 16) :
    ∀ (K i : Nat) (b : Pr), i ≤ l.length → l.length - i < K → iter K (F25_b1 K') (l, s, l, (l.length : Int), (i : Int), b.1, b.2, xs) = some (l, s, (bst s (l.drop i) b).1, (bst s (l.drop i) b).2, xs)
  | 0, i, _, _, h => absurd h (Nat.not_lt_zero _)
  | K + 1, i, b, hi, hK => by
    by_cases h1 : i < l.length
    · have i1 : (i : Int) < (l.length : Int) := by omega
      have e3 : w64 ((i : Int) + 1) = ((i + 1 : Nat) : Int) := by rw [w64_id (by omega) (by omega)]; omega
      have hv := List.getElem?_eq_getElem h1
      have st : F25_b1 K' (l, s, l, (l.length : Int), (i : Int), b.1, b.2, xs) = some (.inl (l, s, l, (l.length : Int), ((i + 1 : Nat) : Int), (cond (pre l[i].1 s && decide (b.1.length < l[i].1.length)) l[i] b).1, (cond (pre l[i].1 s && decide (b.1.length < l[i].1.length)) l[i] b).2, xs)) := by
        simp only [F25_b1, branch_ite, if_pos i1, nth_s hv, F54_eq, bindO_s, e3]
        cases pre l[i].1 s with
        | false => simp only [branch_f, bindO_s, Bool.false_and, cond, e3]
        | true =>
          simp only [branch_t, bindO_s, Bool.true_and, e3]
          by_cases g7 : b.1.length < l[i].1.length
          · have g8 : (b.1.length : Int) < (l[i].1.length : Int) := by omega
            rw [decide_eq_true g7, decide_eq_true g8]; rfl
          · have g8 : ¬ (b.1.length : Int) < (l[i].1.length : Int) := by omega
            rw [decide_eq_false g7, decide_eq_false g8]; rfl
      rw [iter_inl st, List.drop_eq_getElem_cons h1, bst]
      exact iter25 K' l s xs hl K (i + 1) _ (by omega) (by omega)
    · have i1 : ¬ (i : Int) < (l.length : Int) := by omega
      rw [List.drop_eq_nil_of_le (by omega)]
      exact iter_inr (by simp only [F25_b1, branch_ite, if_neg i1, bst])

/-- What is mapped. -/
def mp (l : List Pr) : Nat → List UInt8 → Option (List Int)
  | 0, _ => none
  | m + 1, s => if s = [] then some [] else if (bst s l ([], 0)).1 = [] then none else
      match mp l m (s.drop (bst s l ([], 0)).1.length) with
      | some r => some ((bst s l ([], 0)).2 :: r)
      | none => none

theorem bst_in {l : List Pr} {s : List UInt8} (h : (bst s l ([], 0)).1 ≠ []) : bst s l ([], 0) ∈ l := by
  rcases bst_mem s l ([], 0) with h1 | h1
  · rw [h1] at h; exact absurd rfl h
  · exact h1

theorem mp_out (l : List Pr) : ∀ (m : Nat) (s : List UInt8) (t : List Int), mp l m s = some t → t.length ≤ s.length ∧ (s = [] ↔ t = []) ∧ ∀ x ∈ t, ∃ v ∈ l, v.2 = x
  | 0, _, _, h => by cases h
  | m + 1, s, t, h => by
    simp only [mp] at h
    split at h
    · rename_i h0; subst h0; cases h; simp
    · rename_i h0
      split at h
      · cases h
      · rename_i h1
        split at h
        · rename_i r hr
          obtain ⟨a, b, c⟩ := mp_out l m _ r hr
          cases h
          have hb := pre_len (bst_pre s l ([], 0) rfl)
          have hb1 : (bst s l ([], 0)).1.length ≠ 0 := fun e => h1 (List.length_eq_zero_iff.1 e)
          rw [List.length_drop] at a
          refine ⟨by simp only [List.length_cons]; omega, by simp [h0], fun x hx => ?_⟩
          rcases List.mem_cons.1 hx with rfl | hx
          · exact ⟨_, bst_in h1, rfl⟩
          · exact c x hx
        · cases h

theorem F46_eq (K : Nat) (b : Int) (hK : 1 < K) (h0 : 0 ≤ b) (h1 : b ≤ 255) : F46 K (b, 1) = some (toB [b]) := by
  obtain ⟨k, rfl⟩ : ∃ k, K = k + 2 := ⟨K - 2, by omega⟩
  have e1 : w8 b = b := w8_id h0 h1
  have e2 : fitN (([] : List Int).length + [b].length) 1 = true := rfl
  have e3 : w64 ((1 : Int) - 1) = 0 := by decide
  have s1 : F46_b0 (k + 2) (b, 1, []) = some (.inl (shrI Go.IntKind.i64 b 8, 0, [b])) := by
    have g : (0 : Int) < 1 := by omega
    simp only [F46_b0, branch_ite, if_pos g, e1, e2, guard_t, e3, List.nil_append]
  have s2 : F46_b0 (k + 2) (shrI Go.IntKind.i64 b 8, 0, [b]) = some (.inr [b]) := by
    have g : ¬ (0 : Int) < 0 := by omega
    simp only [F46_b0, branch_ite, if_neg g]
  simp only [F46, iter_inl s1, iter_inr s2, bindO_s]

theorem bothP (K' : Nat) (l : List Pr) (s : List UInt8) (hl : l.length ≤ 16) (hs : s.length ≤ 20000) (h4 : ∀ (i : Nat) v, l[i]? = some v → (1 ≤ v.1.length ∧ v.1.length ≤ 4) ∧ 0 ≤ v.2 ∧ v.2 ≤ 255) (hK' : 20 < K') : ∀ (K m p : Nat) (xs : List Int), p ≤ s.length → s.length - p < K → s.length - p < m → xs.length ≤ p →
    iter K (F24_b0 K') (l, s, (p : Int), xs) = some (match mp l m (s.drop p) with | none => .inl ([], false) | some t => .inr (xs ++ t)) ∧
    iter K (F25_b0 K') (l, s.drop p, xs) = some (match mp l m (s.drop p) with | none => .inl ([], false) | some t => .inr (xs ++ t))
  | 0, _, p, xs, _, h, _, _ => absurd h (Nat.not_lt_zero _)
  | K + 1, 0, p, xs, _, _, h, _ => absurd h (Nat.not_lt_zero _)
  | K + 1, m + 1, p, xs, hp, hK, hm, hx => by
    by_cases h1 : p < s.length
    · have i1 : (p : Int) < (s.length : Int) := by omega
      have hne : s.drop p ≠ [] := fun e => by have := congrArg List.length e; simp at this; omega
      have hne' : (!(decide (s.drop p = []))) = true := by rw [decide_eq_false hne]; rfl
      obtain ⟨n, hn, hB⟩ := iter53 K' l s p hl hs (fun i v hv => (h4 i v hv).1) hp K' 0 (-1) ([], 0) (Nat.zero_le _) (by omega) (.inl ⟨rfl, rfl⟩)
      replace hn : iter K' (F53_b0 K') (l, s, (p : Int), -1, 0) = _ := hn
      have h25 := iter25 K' l (s.drop p) xs hl K' 0 ([], 0) (Nat.zero_le _) (by omega)
      replace h25 : iter K' (F25_b1 K') (l, s.drop p, l, (l.length : Int), 0, [], 0, xs) = _ := h25
      rw [List.drop_zero] at hB h25
      simp only [mp, if_neg hne]
      have hpl := pre_len (bst_pre (s.drop p) l ([], 0) rfl)
      rw [List.length_drop] at hpl
      rcases hB with ⟨rfl, hb⟩ | ⟨q, rfl, hq⟩
      · rw [hb] at h25 ⊢
        have m1 : (-1 : Int) < 0 := by omega
        rw [if_pos rfl]
        refine ⟨iter_inr ?_, iter_inr ?_⟩
        · simp only [F24_b0, branch_ite, if_pos i1, F53, hn, bindO_s, if_pos m1]
        · simp only [F25_b0, hne', branch_t, h25, bindO_s, branch_ite, if_true]
      · generalize bst (s.drop p) l ([], 0) = b at hq h25 hpl ⊢
        have h44 := h4 q b hq
        have hbn : b.1 ≠ [] := fun e => by rw [e] at h44; simp at h44
        rw [if_neg hbn]
        have m1 : ¬ (q : Int) < 0 := by omega
        have e1 : w8 b.2 = b.2 := w8_id h44.2.1 h44.2.2
        have e2 : fitN (xs.length + [b.2].length) 1 = true := fit1 (by simp; omega)
        have e3 : w64 ((p : Int) + (b.1.length : Int)) = ((p + b.1.length : Nat) : Int) := by rw [w64_id (by omega) (by omega)]; omega
        have e4 : ofB (toB [b.2]) = [b.2] := by
          obtain ⟨z, hz⟩ : ∃ z : Nat, b.2 = (z : Int) := ⟨b.2.toNat, by omega⟩
          rw [hz] at h44 ⊢
          simp [ofB, toB]
          omega
        have ih := bothP K' l s hl hs h4 hK' K m (p + b.1.length) (xs ++ [b.2]) (by omega) (by omega) (by omega) (by simp; omega)
        have t1 : F24_b0 K' (l, s, (p : Int), xs) = some (.inl (l, s, ((p + b.1.length : Nat) : Int), xs ++ [b.2])) := by
          simp only [F24_b0, branch_ite, if_pos i1, F53, hn, bindO_s, if_neg m1, nth_s hq, e1, e2, guard_t, e3]
        have t2 : F25_b0 K' (l, s.drop p, xs) = some (.inl (l, s.drop (p + b.1.length), xs ++ [b.2])) := by
          have g : 0 ≤ (b.1.length : Int) ∧ (b.1.length : Int) ≤ ((s.drop p).length : Int) := by rw [List.length_drop]; omega
          have e5 : dpL (s.drop p) (b.1.length : Int) = s.drop (p + b.1.length) := by simp only [dpL, Int.toNat_natCast, List.drop_drop]
          simp only [F25_b0, hne', branch_t, h25, bindO_s, branch_ite, if_neg hbn, F46_eq K' b.2 (by omega) h44.2.1 h44.2.2, F45_eq K' (toB [b.2]) xs (by simp [toB]; omega), e4, guard_dec g, e5]
        have e6 : (s.drop p).drop b.1.length = s.drop (p + b.1.length) := List.drop_drop
        rw [iter_inl t1, iter_inl t2, ih.1, ih.2, e6]
        cases mp l m (s.drop (p + b.1.length)) with
        | none => exact ⟨rfl, rfl⟩
        | some t => simp
    · have i1 : ¬ (p : Int) < (s.length : Int) := by omega
      rw [List.drop_eq_nil_of_le (by omega)]
      refine ⟨iter_inr ?_, iter_inr ?_⟩
      · simp only [F24_b0, branch_ite, if_neg i1, mp, if_true, List.append_nil]
      · simp only [F25_b0, decide_true, Bool.not_true, branch_f, mp, if_true, List.append_nil]

/-- What Mapped answers. -/
def mpR (l : List Pr) (s : List UInt8) : List UInt8 × Bool :=
  cond (charsOk l && decide (s.length ≤ 20000)) (match mp l (s.length + 1) s with | some t => (toB t, true) | none => ([], false)) ([], false)

theorem mpR_eq (K : Nat) (l : List Pr) (s : List UInt8) (hl : l.length ≤ 1048576) (hK : l.length + 20050 < K) : F24 K (l, s) = some (mpR l s) ∧ F25 K (l, s) = some (mpR l s) := by
  have hl' : l.length ≤ maxLen := by unfold maxLen; omega
  simp only [F24, F25, F14_eq K l hl' (by omega), F16_eq K l hl' (by omega), bindO_s, mpR]
  cases hc : charsOk l with
  | false => simp [branch_t, bindO_s, csO_l]
  | true =>
    simp only [Bool.not_true, branch_f, bindO_s, Bool.true_and]
    by_cases h1 : (20000 : Int) < (s.length : Int)
    · have h2 : ¬ s.length ≤ 20000 := by omega
      simp only [decide_eq_true h1, branch_t, bindO_s, csO_l, decide_eq_false h2, cond]
      simp
    · have h2 : s.length ≤ 20000 := by omega
      simp only [decide_eq_false h1, branch_f, bindO_s, csO_r, decide_eq_true h2, cond]
      obtain ⟨h16, h4⟩ := okAt_all hc
      have hb := bothP K l s (by omega) (by omega) h4 (by omega) K (s.length + 1) 0 [] (Nat.zero_le _) (by omega) (by omega) (by simp)
      rw [List.drop_zero] at hb
      obtain ⟨b1, b2⟩ := hb
      replace b1 : iter K (F24_b0 K) (l, s, 0, []) = _ := b1
      rw [b1, b2]
      cases hu : mp l (s.length + 1) s with
      | none => exact ⟨rfl, rfl⟩
      | some t =>
        have := (mp_out l _ s t hu).1
        simp only [bindO_s, csO_r, List.nil_append, F47_eq K t (by omega)]
        simp

theorem F7_true (l : List Pr) (s : List UInt8) (hl : l.length ≤ maxLen) (h4 : ∀ v ∈ l, v.1.length ≤ maxLen) : F7 (l.length + 20051) (l, s) = some true := by
  obtain ⟨r, hr, hr'⟩ := F13_eq (l.length + 20051) l hl h4 (by omega)
  simp only [F7, branch_ite]
  split
  · rfl
  · rw [hr]
    simp only [bindO_s, branch_ite]
    split
    · rfl
    · rename_i g
      have h1 := hr' (by simpa using g)
      obtain ⟨e1, e2⟩ := mpR_eq (l.length + 20051) l s h1 (by omega)
      simp only [F15_eq (l.length + 20051) l h1 (by omega), bindO_s, e1, e2, decide_true, Bool.not_true, branch_f, csO_r, F17_eq (l.length + 20051) l h1 (by omega)]

theorem fnExactMapped_law (a0 : T22.den) (a1 : T9.den) (h0 : T22.ok a0) (h1 : T9.ok a1) : ∃ K, A7 K a0 a1 = some true :=
  ⟨_, F7_true a0 a1 h0.1 fun v hv => (h0.2 v hv).1⟩

theorem iter8 (K' : Nat) (l : List Pr) (s m : List UInt8) (p : Nat) (c : UInt8) (hc : m[p]? = some c) (hl : l.length ≤ 16) : ∀ (K i : Nat) (b : Bool), i ≤ l.length → l.length - i < K →
    iter K (F8_b1 K') (l, s, m, (p : Int), b, (i : Int)) = some (l, s, m, (p : Int), b || (l.drop i).any fun v => decide (v.2 = (c.toNat : Int)))
  | 0, _, _, _, h => absurd h (Nat.not_lt_zero _)
  | K + 1, i, b, hi, hK => by
    by_cases h1 : i < l.length
    · have i1 : (i : Int) < (l.length : Int) := by omega
      have e3 : w64 ((i : Int) + 1) = ((i + 1 : Nat) : Int) := by rw [w64_id (by omega) (by omega)]; omega
      have e2 : w64 (c.toNat : Int) = (c.toNat : Int) := by have := c.toNat_lt; rw [w64_id (by omega) (by omega)]
      have hv := List.getElem?_eq_getElem h1
      have st : F8_b1 K' (l, s, m, (p : Int), b, (i : Int)) = some (.inl (l, s, m, (p : Int), b || decide (l[i].2 = (c.toNat : Int)), ((i + 1 : Nat) : Int))) := by
        simp only [F8_b1, branch_ite, if_pos i1, nth_s hv, nth_s hc, e2, e3]
        cases b <;> rfl
      rw [iter_inl st, iter8 K' l s m p c hc hl K (i + 1) _ (by omega) (by omega), List.drop_eq_getElem_cons h1, List.any_cons, Bool.or_assoc]
    · have i1 : ¬ (i : Int) < (l.length : Int) := by omega
      rw [List.drop_eq_nil_of_le (by omega)]
      exact iter_inr (by simp only [F8_b1, branch_ite, if_neg i1, List.any_nil, Bool.or_false])

theorem F8_true (x : List Int) (hb : ∀ v ∈ x, 0 ≤ v ∧ v ≤ 255) (hx : x.length ≤ maxLen) : F8 30000 x = some true := by
  simp only [F8, F22, bindO_s, branch_ite]
  split
  · rfl
  · rename_i g
    obtain ⟨l, s, e, h6, h24⟩ := F26_ok 30000 x hb (by omega) (by omega)
    obtain ⟨e1, e2⟩ := mpR_eq 30000 l s (by omega) (by omega)
    have e3 := (mpR_eq 30000 l [] (by omega) (by omega)).2
    have hl' : l.length ≤ maxLen := by unfold maxLen; omega
    simp only [e, bindO_s, e1, e2, decide_true, Bool.not_true, branch_f, F14_eq 30000 l hl' (by omega), F16_eq 30000 l hl' (by omega)]
    cases h2 : (mpR l s).2 with
    | false => simp [branch_t, bindO_s, csO_l, branch_ite]
    | true =>
      simp only [Bool.not_true, branch_f, bindO_s, csO_r]
      have hc : charsOk l = true ∧ ∃ t, mp l (s.length + 1) s = some t ∧ mpR l s = (toB t, true) := by
        simp only [mpR] at h2 ⊢
        cases c : charsOk l with
        | false => simp [c] at h2
        | true =>
          refine ⟨rfl, ?_⟩
          have c2 : decide (s.length ≤ 20000) = true := decide_eq_true (by omega)
          rw [c, c2] at h2
          rw [c2]
          cases hu : mp l (s.length + 1) s with
          | none => simp [hu] at h2
          | some t => exact ⟨t, rfl, rfl⟩
      obtain ⟨hc, t, hu, hR⟩ := hc
      obtain ⟨h16, h4⟩ := okAt_all hc
      obtain ⟨o1, o2, o3⟩ := mp_out l _ s t hu
      have htl : (toB t).length = t.length := toB_len t
      rw [hR]
      have h := loop_all (f := F8_b0 30000) (fun i => (l, s, toB t, (i : Int))) (toB t) (fun c => l.any fun v => decide (v.2 = (c.toNat : Int))) (.inl false) (.inr (l, s, toB t)) (fun i c hcv hi => by
        have e5 : ((i : Int) < ((toB t).length : Int)) := by omega
        have e6 : w64 ((i : Int) + 1) = ((i + 1 : Nat) : Int) := by rw [w64_id (by omega) (by omega)]; omega
        have h8 := iter8 30000 l s (toB t) i c hcv h16 30000 0 false (Nat.zero_le _) (by omega)
        replace h8 : iter 30000 (F8_b1 30000) (l, s, toB t, (i : Int), false, 0) = _ := h8
        rw [List.drop_zero, Bool.false_or] at h8
        simp only [F8_b0, branch_ite, if_pos e5, h8, bindO_s, e6]
        cases (l.any fun v => decide (v.2 = (c.toNat : Int))) <;> rfl) (by
        have e5 : ¬ (((toB t).length : Int) < ((toB t).length : Int)) := by omega
        simp only [F8_b0, branch_ite, if_neg e5]) 30000 (by omega)
      replace h : iter 30000 (F8_b0 30000) (l, s, toB t, 0) = _ := h
      have hall : ((toB t).all fun c => l.any fun v => decide (v.2 = (c.toNat : Int))) = true := by
        rw [List.all_eq_true]
        intro c hcm
        simp only [toB, List.mem_map] at hcm
        obtain ⟨z, hz, rfl⟩ := hcm
        obtain ⟨v, hv, rfl⟩ := o3 z hz
        rw [List.any_eq_true]
        refine ⟨v, hv, decide_eq_true ?_⟩
        obtain ⟨i, hi, hvi⟩ := List.getElem_of_mem hv
        have h44 := h4 i v (by rw [List.getElem?_eq_getElem hi, hvi])
        obtain ⟨z, hz⟩ : ∃ z : Nat, v.2 = (z : Int) := ⟨v.2.toNat, by omega⟩
        rw [hz] at h44 ⊢
        simp
        omega
      rw [hall] at h
      have hmt : mpR l [] = ([], true) := by simp [mpR, hc, mp, toB]
      have o4 : ((toB t).length : Int) ≤ (s.length : Int) := by omega
      have o5 : (decide (s = []) = decide (toB t = [])) := by
        have : toB t = [] ↔ t = [] := by simp [toB]
        simp only [this, o2]
      simp only [h, cond, bindO_s, csO_r, e3, hmt, branch_ite, if_pos o4, o5, if_true, branch_t, decide_true]

theorem fnMapped_law (a0 : T34.den) (h0 : T34.ok a0) : ∃ K, A8 K a0 = some true :=
  ⟨_, F8_true a0 (fun v hv => by have := h0.2 v hv; simp only [Ty.ok] at this; exact ⟨this.1, this.2⟩) h0.1⟩

end Go.U.Try
