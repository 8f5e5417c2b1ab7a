/- The law of Unmapped, over the told functions. No condition. -/
import Derived.Test.YthiglohhocelfaaVMp
set_option linter.unusedVariables false
set_option linter.unusedSimpArgs false
namespace Go.U.Try
open Go Go.U
set_option linter.unusedVariables false
set_option linter.unusedSimpArgs false

theorem less_not (a b : List UInt8) : (Op.bytesLess a b || decide (a = b)) = !Op.bytesLess b a := by
  induction a generalizing b with
  | nil => cases b <;> simp [Op.bytesLess]
  | cons x a ih =>
    cases b with
    | nil => simp [Op.bytesLess]
    | cons y b =>
      simp only [Op.bytesLess]
      rcases Nat.lt_trichotomy x.toNat y.toNat with h | h | h
      · have h1 : x < y := UInt8.lt_iff_toNat_lt.2 h
        have h2 : ¬ y < x := fun h3 => by have := UInt8.lt_iff_toNat_lt.1 h3; omega
        have h3 : x ≠ y := fun e => by subst e; omega
        simp [h1, h2, h3, h3.symm]
      · have h1 : x = y := UInt8.toNat_inj.1 h
        subst h1
        have h2 : ¬ x < x := fun h3 => by have := UInt8.lt_iff_toNat_lt.1 h3; omega
        simpa [h2] using ih b
      · have h1 : y < x := UInt8.lt_iff_toNat_lt.2 h
        have h2 : ¬ x < y := fun h3 => by have := UInt8.lt_iff_toNat_lt.1 h3; omega
        have h3 : x ≠ y := fun e => by subst e; omega
        simp [h1, h2, h3, h3.symm]

abbrev Pr := List UInt8 × Int

def inR (v lo hi : Int) : Bool := decide (lo ≤ v ∧ v ≤ hi)
theorem F71_eq (K : Nat) (v lo hi : Int) : F71 K (v, lo, hi) = some (inR v lo hi) := by
  simp only [F71, branch_ite, inR]
  split <;> simp_all <;> omega
theorem F40_eq (K : Nat) (v lo hi : Int) : F40 K (v, lo, hi) = some (inR v lo hi) := by
  simp only [F40, branch_ite, inR]
  split <;> simp_all <;> omega
theorem F38_eq (K : Nat) (v : Int) : F38 K v = some (inR v 0 255) := by simp only [F38, F71_eq, bindO_s]
theorem F41_eq (K : Nat) (v : Int) : F41 K v = some (inR v 0 255) := by simp only [F41, F40_eq, bindO_s]

/-- The i-th is right. -/
def okAt (l : List Pr) (i : Nat) : Bool := match l[i]? with
  | some v => inR (v.1.length : Int) 1 4 && inR v.2 0 255 && (decide (i = 0) || (match l[i - 1]? with | some u => Op.bytesLess u.1 v.1 | none => true))
  | none => true
def charsOk (l : List Pr) : Bool := (List.range l.length).all (okAt l) && decide ((l.length : Int) ≤ 16)

theorem F16_eq (K : Nat) (l : List Pr) (hl : l.length ≤ maxLen) (hK : l.length < K) : F16 K l = some (charsOk l) := by
  unfold maxLen at hl
  have h := loop_all (f := F16_b0 K) (fun i => (l, l, (l.length : Int), (i : Int))) (List.range l.length) (okAt l) (.inl false) (.inr l) (fun i v hv hi => by
    simp at hi
    rw [List.getElem?_range hi] at hv
    cases hv
    have e1 : ((i : Int) < (l.length : Int)) := by omega
    have e3 : w64 ((i : Int) + 1) = ((i + 1 : Nat) : Int) := by rw [w64_id (by omega) (by omega)]; omega
    have hv := List.getElem?_eq_getElem hi
    simp only [F16_b0, branch_ite, if_pos e1, nth_s hv, F40_eq, F41_eq, bindO_s, okAt, hv]
    cases c1 : inR ((l[i].1.length : Nat) : Int) 1 4 with
    | false => simp [branch_t, branch_f, bindO_s]
    | true =>
      cases c2 : inR l[i].2 0 255 with
      | false => simp [branch_t, branch_f, bindO_s]
      | true =>
        by_cases h0 : i = 0
        · subst h0
          simp [branch_t, branch_f, bindO_s]
          exact e3
        · have i0 : (0 : Int) < (i : Int) := by omega
          have hi1 : i - 1 < l.length := by omega
          have hu := List.getElem?_eq_getElem hi1
          have e4 : w64 ((i : Int) - 1) = ((i - 1 : Nat) : Int) := by rw [w64_id (by omega) (by omega)]; omega
          simp only [Bool.not_true, branch_f, if_pos i0, e4, nth_s hu, bindO_s, less_not, hu, decide_eq_false h0, Bool.false_or, Bool.true_and, e3]
          cases Op.bytesLess l[i - 1].1 l[i].1 <;> rfl) (by
    have e1 : ¬ ((l.length : Int) < (l.length : Int)) := by omega
    simp only [F16_b0, List.length_range, branch_ite, if_neg e1]) K (by simpa using hK)
  replace h : iter K (F16_b0 K) (l, l, (l.length : Int), 0) = _ := h
  simp only [F16, h, bindO_s, charsOk]
  cases (List.range l.length).all (okAt l) <;> rfl

theorem F14_eq (K : Nat) (l : List Pr) (hl : l.length ≤ maxLen) (hK : l.length < K) : F14 K l = some (charsOk l) := by
  unfold maxLen at hl
  have h := loop_all (f := F14_b0 K) (fun i => (l, (i : Int))) (List.range l.length) (okAt l) (.inl false) (.inr l) (fun i v hv hi => by
    simp at hi
    rw [List.getElem?_range hi] at hv
    cases hv
    have e1 : ((i : Int) < (l.length : Int)) := by omega
    have e3 : w64 ((i : Int) + 1) = ((i + 1 : Nat) : Int) := by rw [w64_id (by omega) (by omega)]; omega
    have hv := List.getElem?_eq_getElem hi
    simp only [F14_b0, branch_ite, if_pos e1, nth_s hv, F38_eq, bindO_s, okAt, hv]
    by_cases c1 : ((l[i].1.length : Nat) : Int) < 1
    · have : inR ((l[i].1.length : Nat) : Int) 1 4 = false := by simp [inR]; omega
      rw [if_pos c1, this]; rfl
    · rw [if_neg c1]
      by_cases c2 : (4 : Int) < ((l[i].1.length : Nat) : Int)
      · have : inR ((l[i].1.length : Nat) : Int) 1 4 = false := by simp [inR]; omega
        rw [if_pos c2, this]; rfl
      · have : inR ((l[i].1.length : Nat) : Int) 1 4 = true := by simp [inR]; omega
        rw [if_neg c2, this]
        cases c3 : inR l[i].2 0 255 with
        | false => simp [branch_t, branch_f, bindO_s]
        | true =>
          by_cases h0 : i = 0
          · subst h0
            simp [branch_t, branch_f, bindO_s]
            exact e3
          · have i0 : (0 : Int) < (i : Int) := by omega
            have hi1 : i - 1 < l.length := by omega
            have hu := List.getElem?_eq_getElem hi1
            have e4 : w64 ((i : Int) - 1) = ((i - 1 : Nat) : Int) := by rw [w64_id (by omega) (by omega)]; omega
            simp only [Bool.not_true, branch_f, if_pos i0, e4, nth_s hu, bindO_s, hu, decide_eq_false h0, Bool.false_or, Bool.true_and, e3]
            cases Op.bytesLess l[i - 1].1 l[i].1 <;> rfl) (by
    have e1 : ¬ ((l.length : Int) < (l.length : Int)) := by omega
    simp only [F14_b0, List.length_range, branch_ite, if_neg e1]) K (by simpa using hK)
  replace h : iter K (F14_b0 K) (l, 0) = _ := h
  simp only [F14, h, bindO_s, charsOk]
  cases (List.range l.length).all (okAt l) <;> rfl

/-- Where the first of such a byte stands. -/
def findI (l : List Pr) (c : Int) (i : Nat) : Int := if h : i < l.length then (if l[i].2 = c then (i : Int) else findI l c (i + 1)) else -1
termination_by l.length - i

theorem iter20 (K' : Nat) (l : List Pr) (s out : List UInt8) (p : Nat) (b : UInt8) (hp : s[p]? = some b) (hl : l.length ≤ 9223372036854775806) : ∀ (K i : Nat) (best : Int), i ≤ l.length → l.length - i < K →
    iter K (F20_b1 K') (l, s, out, (p : Int), best, (i : Int)) = some (l, s, out, (p : Int), if best < 0 then (if findI l (b.toNat : Int) i < 0 then best else findI l (b.toNat : Int) i) else best)
  | 0, i, best, _, h => absurd h (Nat.not_lt_zero _)
  | K + 1, i, best, hi, hK => by
    have e2 : w64 (b.toNat : Int) = (b.toNat : Int) := by have := b.toNat_lt; rw [w64_id (by omega) (by omega)]
    rw [findI]
    by_cases h1 : i < l.length
    · have i1 : (i : Int) < (l.length : Int) := by omega
      have e3 : w64 ((i : Int) + 1) = ((i + 1 : Nat) : Int) := by rw [w64_id (by omega) (by omega)]; omega
      have hv := List.getElem?_eq_getElem h1
      rw [dif_pos h1]
      by_cases h2 : best < 0
      · rw [if_pos h2]
        by_cases h3 : l[i].2 = (b.toNat : Int)
        · have ih := iter20 K' l s out p b hp hl K (i + 1) (i : Int) (by omega) (by omega)
          rw [if_neg (by omega)] at ih
          rw [if_pos h3, if_neg (by omega)]
          simp only [iter, F20_b1, branch_ite, if_pos i1, if_pos h2, nth_s hv, nth_s hp, bindO_s, e2, decide_eq_true h3, if_true, e3, branch_t]
          exact ih
        · have ih := iter20 K' l s out p b hp hl K (i + 1) best (by omega) (by omega)
          rw [if_pos h2] at ih
          rw [if_neg h3]
          simp only [iter, F20_b1, branch_ite, if_pos i1, if_pos h2, nth_s hv, nth_s hp, bindO_s, e2, decide_eq_false h3, e3, branch_f]
          exact ih
      · have ih := iter20 K' l s out p b hp hl K (i + 1) best (by omega) (by omega)
        rw [if_neg h2] at ih
        rw [if_neg h2]
        simp only [iter, F20_b1, branch_ite, if_pos i1, if_neg h2, bindO_s, e3, branch_f]
        exact ih
    · have i1 : ¬ (i : Int) < (l.length : Int) := by omega
      rw [dif_neg h1]
      simp only [iter, F20_b1, branch_ite, if_neg i1]
      by_cases h2 : best < 0 <;> simp [h2]

theorem findI_lt (l : List Pr) (c : Int) (i : Nat) : findI l c i < (l.length : Int) := by
  rw [findI]
  split
  · split
    · omega
    · exact findI_lt l c (i + 1)
  · omega
termination_by l.length - i

theorem iter48 (K' : Nat) (l : List Pr) (b : UInt8) (hl : l.length ≤ 9223372036854775806) : ∀ (K i : Nat), i ≤ l.length → l.length - i < K →
    iter K (F48_b0 K') (l, (l.length : Int), (i : Int), (b.toNat : Int)) = some (if findI l (b.toNat : Int) i < 0 then .inr (b.toNat : Int) else .inl (findI l (b.toNat : Int) i, (b.toNat : Int)))
  | 0, i, _, h => absurd h (Nat.not_lt_zero _)
  | K + 1, i, hi, hK => by
    have e2 : w64 (b.toNat : Int) = (b.toNat : Int) := by have := b.toNat_lt; rw [w64_id (by omega) (by omega)]
    rw [findI]
    by_cases h1 : i < l.length
    · have i1 : (i : Int) < (l.length : Int) := by omega
      have e3 : w64 ((i : Int) + 1) = ((i + 1 : Nat) : Int) := by rw [w64_id (by omega) (by omega)]; omega
      have hv := List.getElem?_eq_getElem h1
      rw [dif_pos h1]
      by_cases h3 : l[i].2 = (b.toNat : Int)
      · rw [if_pos h3, if_neg (by omega)]
        simp only [iter, F48_b0, F49, branch_ite, if_pos i1, nth_s hv, bindO_s, e2, if_pos h3]
      · rw [if_neg h3]
        simp only [iter, F48_b0, F49, branch_ite, if_pos i1, nth_s hv, bindO_s, e2, if_neg h3, e3]
        exact iter48 K' l b hl K (i + 1) (by omega) (by omega)
    · have i1 : ¬ (i : Int) < (l.length : Int) := by omega
      rw [dif_neg h1]
      simp only [iter, F48_b0, branch_ite, if_neg i1]
      rfl

theorem toB_app (xs ys : List Int) : toB (xs ++ ys) = toB xs ++ toB ys := by simp [toB]
theorem toB_len (xs : List Int) : (toB xs).length = xs.length := by simp [toB]
theorem toB_of (l : List UInt8) : toB (ofB l) = l := toB_ofB l
theorem fit1 {n : Nat} (h : n ≤ 100000) : fitN n 1 = true := decide_eq_true (by omega)
theorem F45_eq (K : Nat) (l : List UInt8) (xs : List Int) (h : xs.length + l.length ≤ 100000) : F45 K (l, xs) = some ((l.length : Int), false, xs ++ ofB l) := by
  have e : fitN (xs.length + (ofB l).length) 1 = true := fit1 (by simpa [ofB] using h)
  simp only [F45, F72, bindO_s, e, guard_t]
theorem iter_inl {α β : Type} {K : Nat} {f : α → Option (α ⊕ β)} {a a' : α} (h : f a = some (.inl a')) : iter (K + 1) f a = iter K f a' := by simp only [iter, h]
theorem iter_inr {α β : Type} {K : Nat} {f : α → Option (α ⊕ β)} {a : α} {b : β} (h : f a = some (.inr b)) : iter (K + 1) f a = some b := by simp only [iter, h]

theorem bothU (K' : Nat) (l : List Pr) (s : List UInt8) (hl : l.length ≤ 16) (hs : s.length ≤ 20000) (h4 : ∀ (i : Nat) v, l[i]? = some v → v.1.length ≤ 4) (hK' : 20 < K') : ∀ (K p : Nat) (xs : List Int), p ≤ s.length → s.length - p < K → xs.length ≤ 4 * p →
    (iter K (F20_b0 K') (l, s, toB xs, (p : Int)) = some (.inl ([], false)) ∧ iter K (F21_b0 K') (l, (s.length : Int), (p : Int), ofB s, xs) = some (.inl ([], false))) ∨
    ∃ ys, ys.length ≤ 80000 ∧ iter K (F20_b0 K') (l, s, toB xs, (p : Int)) = some (.inr (toB ys)) ∧ iter K (F21_b0 K') (l, (s.length : Int), (p : Int), ofB s, xs) = some (.inr ys)
  | 0, p, xs, _, h, _ => absurd h (Nat.not_lt_zero _)
  | K + 1, p, xs, hp, hK, hx => by
    by_cases h1 : p < s.length
    · have i1 : (p : Int) < (s.length : Int) := by omega
      have hb := List.getElem?_eq_getElem h1
      have hb' : (ofB s)[p]? = some (s[p].toNat : Int) := by simp [ofB, hb]
      have e3 : w64 ((p : Int) + 1) = ((p + 1 : Nat) : Int) := by rw [w64_id (by omega) (by omega)]; omega
      have g0 : (0 : Int) ≤ (p : Int) ∧ (p : Int) < ((ofB s).length : Int) := by simp [ofB]; omega
      have s1 := iter20 K' l s (toB xs) p s[p] hb (by omega) K' 0 (-1) (by omega) (by omega)
      have s2 := iter48 K' l s[p] (by omega) K' 0 (by omega) (by omega)
      rw [if_pos (by omega)] at s1
      replace s1 : iter K' (F20_b1 K') (l, s, toB xs, (p : Int), -1, 0) = _ := s1
      replace s2 : iter K' (F48_b0 K') (l, (l.length : Int), 0, (s[p].toNat : Int)) = _ := s2
      have hlt := findI_lt l (s[p].toNat : Int) 0
      by_cases hf : findI l (s[p].toNat : Int) 0 < 0
      · rw [if_pos hf] at s1 s2
        have m1 : (-1 : Int) < 0 := by omega
        refine .inl ⟨iter_inr ?_, iter_inr ?_⟩
        · simp only [F20_b0, branch_ite, if_pos i1, s1, bindO_s, if_pos m1]
        · simp only [F21_b0, branch_ite, if_pos i1, guard_dec g0, Int.toNat_natCast, nthN_s hb', F48, s2, bindO_s, csO_r, if_pos m1]
      · rw [if_neg hf] at s1 s2
        obtain ⟨q, hq⟩ : ∃ q : Nat, findI l (s[p].toNat : Int) 0 = (q : Int) := ⟨(findI l (s[p].toNat : Int) 0).toNat, by omega⟩
        rw [hq] at s1 s2 hlt hf
        have hql : q < l.length := by omega
        have hv := List.getElem?_eq_getElem hql
        have h44 := h4 q _ hv
        have g1 : (toB xs).length + l[q].1.length ≤ 9223372036854775807 := by rw [toB_len]; omega
        have ih := bothU K' l s hl hs h4 hK' K (p + 1) (xs ++ ofB l[q].1) (by omega) (by omega) (by simp [ofB]; omega)
        rw [toB_app, toB_of] at ih
        have t1 : F20_b0 K' (l, s, toB xs, (p : Int)) = some (.inl (l, s, toB xs ++ l[q].1, ((p + 1 : Nat) : Int))) := by
          simp only [F20_b0, branch_ite, if_pos i1, s1, bindO_s, if_neg hf, nth_s hv, guard_dec g1, e3]
        have t2 : F21_b0 K' (l, (s.length : Int), (p : Int), ofB s, xs) = some (.inl (l, (s.length : Int), ((p + 1 : Nat) : Int), ofB s, xs ++ ofB l[q].1)) := by
          simp only [F21_b0, branch_ite, if_pos i1, guard_dec g0, Int.toNat_natCast, nthN_s hb', F48, s2, bindO_s, csO_l, if_neg hf, nth_s hv, F45_eq K' l[q].1 xs (by omega), e3]
        rw [iter_inl t1, iter_inl t2]
        exact ih
    · have i1 : ¬ (p : Int) < (s.length : Int) := by omega
      refine .inr ⟨xs, by omega, iter_inr ?_, iter_inr ?_⟩
      · simp only [F20_b0, branch_ite, if_neg i1]
      · simp only [F21_b0, branch_ite, if_neg i1]

theorem F13_eq (K : Nat) (l : List Pr) (hl : l.length ≤ maxLen) (h4 : ∀ v ∈ l, v.1.length ≤ maxLen) (hK : l.length < K) : ∃ r, F13 K (l, 1048576) = some r ∧ (0 ≤ r → l.length ≤ 1048576) := by
  unfold maxLen at hl h4
  have e0 : w64 (1048576 - (l.length : Int)) = 1048576 - (l.length : Int) := w64_id (by omega) (by omega)
  simp only [F13, e0, branch_ite]
  split
  · exact ⟨_, rfl, by omega⟩
  · rename_i h0
    have h0' : ¬ (1048576 - (l.length : Int) < 0) := by simpa using h0
    obtain ⟨b, h1, _⟩ := iter_inv (f := F13_b0 K) (fun a => ∃ (i : Nat) (m : Int), a = (l, m, (i : Int)) ∧ i ≤ l.length ∧ 0 ≤ m ∧ m ≤ 1048576) (fun a => l.length - a.2.2.toNat) (fun _ => True) (fun a ⟨i, m, ha, hi, hm0, hm1⟩ => by
      subst ha
      by_cases g1 : i < l.length
      · have i1 : (i : Int) < (l.length : Int) := by omega
        have hv := List.getElem?_eq_getElem g1
        have hv4 := h4 _ (List.getElem_mem g1)
        have e3 : w64 ((i : Int) + 1) = ((i + 1 : Nat) : Int) := by rw [w64_id (by omega) (by omega)]; omega
        have e4 : w64 (m - (l[i].1.length : Int)) = m - (l[i].1.length : Int) := w64_id (by omega) (by omega)
        simp only [F13_b0, branch_ite, if_pos i1, nth_s hv, F37, e4, e3]
        by_cases g2 : m - (l[i].1.length : Int) < 0
        · have m1 : (-1 : Int) < 0 := by omega
          rw [if_pos g2]
          simp only [bindO_s, branch_ite, if_pos m1]
          exact .inr ⟨_, rfl, trivial⟩
        · rw [if_neg g2]
          simp only [bindO_s, branch_ite, if_neg g2]
          exact .inl ⟨_, rfl, ⟨i + 1, _, rfl, by omega, by omega, by omega⟩, by simp; omega⟩
      · have i1 : ¬ (i : Int) < (l.length : Int) := by omega
        simp only [F13_b0, branch_ite, if_neg i1]
        exact .inr ⟨_, rfl, trivial⟩) K (l, 1048576 - (l.length : Int), 0) ⟨0, _, rfl, Nat.zero_le _, by omega, by omega⟩ (by simpa using hK)
    rw [h1]
    cases b with
    | inl n => exact ⟨n, rfl, fun _ => by omega⟩
    | inr n => exact ⟨n, rfl, fun _ => by omega⟩

theorem F15_eq (K : Nat) (xs : List Pr) (hl : xs.length ≤ 1048576) (hK : xs.length < K) : F15 K xs = some xs := by
  have h := loop_copy0 (f := F15_b0 K) (fun i zs => (xs, (i : Int), zs)) xs id (fun i zs v hv hi hz => by
    have e1 : ((i : Int) < (xs.length : Int)) := by omega
    have e2 : (0 ≤ (i : Int) ∧ (i : Int) < (zs.length : Int)) := by omega
    have e3 : w64 ((i : Int) + 1) = ((i + 1 : Nat) : Int) := by rw [w64_id (by omega) (by omega)]; omega
    have e4 : zs[i]? = some zs[i] := List.getElem?_eq_getElem (by omega)
    simp only [F15_b0, F39, bindO_s, branch_ite, if_pos e1, nth_s hv, guard_dec e2, Int.toNat_natCast, nthN_s e4, e3, id]) (fun zs hz => by
    have e1 : ¬ ((xs.length : Int) < (xs.length : Int)) := by omega
    simp only [F15_b0, branch_ite, if_neg e1]) K (List.replicate ((xs.length : Int).toNat) ([], 0)) (by simp) hK
  rw [List.map_id] at h
  replace h : iter K (F15_b0 K) (xs, 0, List.replicate ((xs.length : Int).toNat) ([], 0)) = some xs := h
  unfold F15
  rw [guard_dec ⟨rfl, by omega, by simp; omega⟩, h]
  rfl

theorem F17_eq (K : Nat) (xs : List Pr) (hl : xs.length ≤ 1048576) (hK : xs.length < K) : F17 K (xs, xs) = some true := by
  have h := loop_all (f := F17_b0 K) (fun i => (xs, xs, (i : Int))) xs (fun _ => true) (.inl false) (.inr ()) (fun i v hv hi => by
    have e1 : ((i : Int) < (xs.length : Int)) := by omega
    have e3 : w64 ((i : Int) + 1) = ((i + 1 : Nat) : Int) := by rw [w64_id (by omega) (by omega)]; omega
    simp only [F17_b0, F42, branch_ite, if_pos e1, nth_s hv, e3, decide_true, Bool.not_true, branch_f, cond, bindO_s]) (by
    have e1 : ¬ ((xs.length : Int) < (xs.length : Int)) := by omega
    simp only [F17_b0, branch_ite, if_neg e1]) K hK
  replace h : iter K (F17_b0 K) (xs, xs, 0) = _ := h
  simp only [F17, decide_true, Bool.not_true, branch_f, h, bindO_s]
  rw [List.all_eq_true.2 (fun _ _ => rfl)]
  rfl

theorem F47_eq (K : Nat) (xs : List Int) (h : xs.length ≤ 80000) : F47 K xs = some (toB xs, xs) := by
  unfold F47
  rw [branch_ite]
  split
  · rename_i h0
    rw [guard_dec ⟨rfl, by simpa using h0, by omega⟩]
  · rename_i h0
    have : xs = [] := List.length_eq_zero_iff.1 (by simpa using h0)
    subst this
    rfl

theorem unmapped_same (K : Nat) (l : List Pr) (s : List UInt8) (hl : l.length ≤ 1048576) (hK : l.length + 20050 < K) : ∃ r, F20 K (l, s) = some r ∧ F21 K (l, s) = some r := by
  have hl' : l.length ≤ maxLen := by unfold maxLen; omega
  simp only [F20, F21, F14_eq K l hl' (by omega), F16_eq K l hl' (by omega), bindO_s]
  cases hc : charsOk l with
  | false => exact ⟨_, rfl, rfl⟩
  | true =>
    simp only [Bool.not_true, branch_f, bindO_s]
    by_cases h1 : (20000 : Int) < (s.length : Int)
    · simp only [decide_eq_true h1, branch_t, bindO_s, csO_l]
      exact ⟨_, rfl, rfl⟩
    · simp only [decide_eq_false h1, branch_f, bindO_s, csO_r]
      simp only [charsOk, Bool.and_eq_true, decide_eq_true_eq] at hc
      have h4 : ∀ (i : Nat) v, l[i]? = some v → v.1.length ≤ 4 := fun i v hv => by
        have hi := (List.getElem?_eq_some_iff.1 hv).1
        have := List.all_eq_true.1 hc.1 i (by simpa using hi)
        simp only [okAt, hv, Bool.and_eq_true, inR, decide_eq_true_eq] at this
        omega
      have hb := bothU K l s (by omega) (by omega) h4 (by omega) K 0 [] (Nat.zero_le _) (by omega) (by simp)
      have hlen : ((ofB s).length : Int) = (s.length : Int) := by simp [ofB]
      rw [hlen]
      rcases hb with ⟨b1, b2⟩ | ⟨ys, hy, b1, b2⟩
      · replace b1 : iter K (F20_b0 K) (l, s, [], 0) = _ := b1
        replace b2 : iter K (F21_b0 K) (l, (s.length : Int), 0, ofB s, []) = _ := b2
        rw [b1, b2]
        exact ⟨_, rfl, rfl⟩
      · replace b1 : iter K (F20_b0 K) (l, s, [], 0) = _ := b1
        replace b2 : iter K (F21_b0 K) (l, (s.length : Int), 0, ofB s, []) = _ := b2
        rw [b1, b2]
        simp only [bindO_s, csO_r, F47_eq K ys hy]
        exact ⟨_, rfl, rfl⟩

theorem F5_true (l : List Pr) (s : List UInt8) (hl : l.length ≤ maxLen) (h4 : ∀ v ∈ l, v.1.length ≤ maxLen) : F5 (l.length + 20051) (l, s) = some true := by
  obtain ⟨r, hr, hr'⟩ := F13_eq (l.length + 20051) l hl h4 (by omega)
  simp only [F5, branch_ite]
  split
  · rfl
  · rw [hr]
    simp only [bindO_s, branch_ite]
    split
    · rfl
    · rename_i g
      have h1 := hr' (by simpa using g)
      obtain ⟨⟨x, y⟩, e1, e2⟩ := unmapped_same (l.length + 20051) l s h1 (by omega)
      simp only [F15_eq (l.length + 20051) l h1 (by omega), bindO_s, e1, e2, decide_true, Bool.not_true, branch_f, csO_r, F17_eq (l.length + 20051) l h1 (by omega)]

theorem unmapped_law (a0 : T22.den) (a1 : T9.den) (h0 : T22.ok a0) (h1 : T9.ok a1) : ∃ K, A5 K a0 a1 = some true :=
  ⟨_, F5_true a0 a1 h0.1 fun v hv => (h0.2 v hv).1⟩

end Go.U.Try
