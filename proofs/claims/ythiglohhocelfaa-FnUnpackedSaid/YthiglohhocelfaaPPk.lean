/- The law of PackedOf, over the told functions. No condition. -/
import Derived.Test.YthiglohhocelfaaVUp
set_option linter.unusedVariables false
set_option linter.unusedSimpArgs false
namespace Go.U.Try
open Go Go.U
set_option linter.unusedVariables false
set_option linter.unusedSimpArgs false

theorem b43_44 (K : Nat) : F43_b0 K = F44_b0 K := by
  funext x
  unfold F43_b0 F44_b0
  simp only [branch_ite]
  by_cases h1 : w64 (x.2.1 + x.2.2) < (x.1.length : Int) <;> by_cases h2 : x.2.2 < 128 <;> simp [h1, h2]

/-- How far it is alike. -/
def run (x : List UInt8) (a n : Nat) : Nat := if n < 128 ∧ a + n < x.length ∧ x[a + n]? = x[a]? then run x a (n + 1) else n
termination_by 128 - n

theorem run_le (x : List UInt8) (a n : Nat) (hn : n ≤ 128) (ha : a + n ≤ x.length) : n ≤ run x a n ∧ run x a n ≤ 128 ∧ a + run x a n ≤ x.length := by
  rw [run]
  split
  · rename_i h
    have := run_le x a (n + 1) (by omega) (by omega)
    omega
  · omega
termination_by 128 - n

theorem run_01 {x : List UInt8} {a : Nat} (ha : a < x.length) : run x a 0 = run x a 1 := by
  rw [run]
  exact if_pos ⟨by omega, by omega, by simp⟩

theorem iter43 (K' : Nat) (x : List UInt8) (a : Nat) (ha : a < x.length) (hx : x.length ≤ 20000) : ∀ (K n : Nat), n ≤ 128 → 128 - n < K → iter K (F43_b0 K') (x, (a : Int), (n : Int)) = some ((run x a n : Nat) : Int)
  | 0, n, _, h => absurd h (Nat.not_lt_zero _)
  | K + 1, n, hn, hK => by
    have e1 : w64 ((a : Int) + (n : Int)) = ((a + n : Nat) : Int) := by rw [w64_id (by omega) (by omega)]; omega
    have e2 : w64 ((n : Int) + 1) = ((n + 1 : Nat) : Int) := by rw [w64_id (by omega) (by omega)]; omega
    have hv1 := List.getElem?_eq_getElem ha
    rw [run]
    by_cases h1 : a + n < x.length
    · have i1 : ((a + n : Nat) : Int) < (x.length : Int) := by omega
      have hv0 := List.getElem?_eq_getElem h1
      by_cases h2 : n < 128
      · have i2 : (n : Int) < 128 := by omega
        by_cases h3 : x[a + n] = x[a]
        · have i3 : ((x[a + n].toNat : Nat) : Int) = ((x[a].toNat : Nat) : Int) := by rw [h3]
          rw [if_pos ⟨h2, h1, by rw [hv0, hv1, h3]⟩]
          simp only [iter, F43_b0, e1, branch_ite, if_pos i1, if_pos i2, nth_s hv0, nth_s hv1, if_pos i3, e2]
          exact iter43 K' x a ha hx K (n + 1) (by omega) (by omega)
        · have i3 : ¬ ((x[a + n].toNat : Nat) : Int) = ((x[a].toNat : Nat) : Int) := fun h => h3 (UInt8.toNat_inj.1 (by omega))
          rw [if_neg (fun h => h3 (by have := h.2.2; rw [hv0, hv1] at this; exact Option.some.inj this))]
          simp only [iter, F43_b0, e1, branch_ite, if_pos i1, if_pos i2, nth_s hv0, nth_s hv1, if_neg i3]
      · have i2 : ¬ (n : Int) < 128 := by omega
        rw [if_neg (fun h => h2 h.1)]
        simp only [iter, F43_b0, e1, branch_ite, if_pos i1, if_neg i2]
    · have i1 : ¬ ((a + n : Nat) : Int) < (x.length : Int) := by omega
      rw [if_neg (fun h => h1 h.2.1)]
      simp only [iter, F43_b0, e1, branch_ite, if_neg i1]

theorem F43_eq (K : Nat) (x : List UInt8) (a : Nat) (ha : a < x.length) (hx : x.length ≤ 20000) (hK : 128 < K) : F43 K (x, (a : Int)) = some ((run x a 1 : Nat) : Int) := by
  have := iter43 K x a ha hx K 1 (by omega) (by omega)
  simp only [F43]
  have e : iter K (F43_b0 K) (x, (a : Int), 1) = _ := this
  rw [e]; rfl
theorem F44_eq (K : Nat) (x : List UInt8) (a : Nat) (ha : a < x.length) (hx : x.length ≤ 20000) (hK : 128 < K) : F44 K (x, (a : Int)) = some ((run x a 1 : Nat) : Int) := by
  have := iter43 K x a ha hx K 0 (by omega) (by omega)
  rw [run_01 ha, b43_44] at this
  simp only [F44]
  have e : iter K (F44_b0 K) (x, (a : Int), 0) = _ := this
  rw [e]; rfl

/-- How many stand alone. -/
def lit (x : List UInt8) (f n : Nat) : Nat := if n < 128 ∧ f + n < x.length ∧ run x (f + n) 1 < 3 then lit x f (n + 1) else n
termination_by 128 - n
theorem lit_le (x : List UInt8) (f n : Nat) (hn : n ≤ 128) (ha : f + n ≤ x.length) : n ≤ lit x f n ∧ lit x f n ≤ 128 ∧ f + lit x f n ≤ x.length := by
  rw [lit]
  split
  · have := lit_le x f (n + 1) (by omega) (by omega)
    omega
  · omega
termination_by 128 - n

theorem iter18 (K' : Nat) (x out : List UInt8) (f : Nat) (hx : x.length ≤ 20000) (hK' : 128 < K') : ∀ (K n : Nat), n ≤ 128 → f + n ≤ x.length → 128 - n < K → iter K (F18_b1 K') (x, out, (f : Int), ((f + n : Nat) : Int)) = some (x, out, (f : Int), ((f + lit x f n : Nat) : Int))
  | 0, n, _, _, h => absurd h (Nat.not_lt_zero _)
  | K + 1, n, hn, hf, hK => by
    have e1 : w64 (((f + n : Nat) : Int) - (f : Int)) = (n : Int) := by rw [w64_id (by omega) (by omega)]; omega
    have e2 : w64 (((f + n : Nat) : Int) + 1) = ((f + (n + 1) : Nat) : Int) := by rw [w64_id (by omega) (by omega)]; omega
    rw [lit]
    by_cases h1 : f + n < x.length
    · have i1 : ((f + n : Nat) : Int) < (x.length : Int) := by omega
      by_cases h2 : n < 128
      · have i2 : (n : Int) < 128 := by omega
        by_cases h3 : run x (f + n) 1 < 3
        · have i3 : ((run x (f + n) 1 : Nat) : Int) < 3 := by omega
          rw [if_pos ⟨h2, h1, h3⟩]
          simp only [iter, F18_b1, e1, branch_ite, if_pos i1, if_pos i2, F43_eq K' x (f + n) h1 hx hK', bindO_s, if_pos i3, e2]
          exact iter18 K' x out f hx hK' K (n + 1) (by omega) (by omega) (by omega)
        · have i3 : ¬ ((run x (f + n) 1 : Nat) : Int) < 3 := by omega
          rw [if_neg (fun h => h3 h.2.2)]
          simp only [iter, F18_b1, e1, branch_ite, if_pos i1, if_pos i2, F43_eq K' x (f + n) h1 hx hK', bindO_s, if_neg i3]
      · have i2 : ¬ (n : Int) < 128 := by omega
        rw [if_neg (fun h => h2 h.1)]
        simp only [iter, F18_b1, e1, branch_ite, if_pos i1, if_neg i2]
    · have i1 : ¬ ((f + n : Nat) : Int) < (x.length : Int) := by omega
      rw [if_neg (fun h => h1 h.2.1)]
      simp only [iter, F18_b1, branch_ite, if_neg i1]

theorem iter19 (K' : Nat) (x : List UInt8) (xs : List Int) (f : Nat) (hx : x.length ≤ 20000) (hK' : 128 < K') : ∀ (K n : Nat), n ≤ 128 → f + n ≤ x.length → 128 - n < K → iter K (F19_b1 K') (x, (f : Int), (n : Int), xs) = some (x, (f : Int), ((lit x f n : Nat) : Int), xs)
  | 0, n, _, _, h => absurd h (Nat.not_lt_zero _)
  | K + 1, n, hn, hf, hK => by
    have e1 : w64 ((f : Int) + (n : Int)) = ((f + n : Nat) : Int) := by rw [w64_id (by omega) (by omega)]; omega
    have e2 : w64 ((n : Int) + 1) = ((n + 1 : Nat) : Int) := by rw [w64_id (by omega) (by omega)]; omega
    rw [lit]
    by_cases h2 : n < 128
    · have i2 : (n : Int) < 128 := by omega
      by_cases h1 : f + n < x.length
      · have i1 : ((f + n : Nat) : Int) < (x.length : Int) := by omega
        by_cases h3 : run x (f + n) 1 < 3
        · have i3 : ((run x (f + n) 1 : Nat) : Int) < 3 := by omega
          rw [if_pos ⟨h2, h1, h3⟩]
          simp only [iter, F19_b1, e1, branch_ite, if_pos i1, if_pos i2, F44_eq K' x (f + n) h1 hx hK', bindO_s, if_pos i3, e2]
          exact iter19 K' x xs f hx hK' K (n + 1) (by omega) (by omega) (by omega)
        · have i3 : ¬ ((run x (f + n) 1 : Nat) : Int) < 3 := by omega
          rw [if_neg (fun h => h3 h.2.2)]
          simp only [iter, F19_b1, e1, branch_ite, if_pos i1, if_pos i2, F44_eq K' x (f + n) h1 hx hK', bindO_s, if_neg i3]
      · have i1 : ¬ ((f + n : Nat) : Int) < (x.length : Int) := by omega
        rw [if_neg (fun h => h1 h.2.1)]
        simp only [iter, F19_b1, e1, branch_ite, if_pos i2, if_neg i1]
    · have i2 : ¬ (n : Int) < 128 := by omega
      rw [if_neg (fun h => h2 h.1)]
      simp only [iter, F19_b1, branch_ite, if_neg i2]

theorem toB_app (xs ys : List Int) : toB (xs ++ ys) = toB xs ++ toB ys := by simp [toB]
theorem toB_len (xs : List Int) : (toB xs).length = xs.length := by simp [toB]
theorem toB_of (l : List UInt8) : toB (ofB l) = l := toB_ofB l
theorem fit1 {n : Nat} (h : n ≤ 100000) : fitN n 1 = true := decide_eq_true (by omega)

theorem F46_one (K : Nat) (v : Int) : F46 (K + 2) (v, 1) = some (toB [w8 v]) := by
  have e0 : w64 (1 - 1) = 0 := by rw [w64_id (by omega) (by omega)]; rfl
  have e1 : (0 : Int) < 1 := by omega
  have e2 : ¬ (0 : Int) < 0 := by omega
  have e3 : fitN (([] : List Int).length + [w8 v].length) 1 = true := fit1 (by simp)
  simp only [F46, iter, F46_b0, branch_ite, if_pos e1, e3, guard_t, e0, if_neg e2, bindO_s, List.nil_append]

theorem F45_eq (K : Nat) (l : List UInt8) (xs : List Int) (h : xs.length + l.length ≤ 100000) : F45 K (l, xs) = some ((l.length : Int), false, xs ++ ofB l) := by
  have e : fitN (xs.length + (ofB l).length) 1 = true := fit1 (by simpa [ofB] using h)
  simp only [F45, F72, bindO_s, e, guard_t]

theorem w8_sub (n : Nat) (h : n ≤ 256) : True := trivial

theorem lit_01 {x : List UInt8} {a : Nat} (ha : a < x.length) (hr : run x a 1 < 3) : lit x a 0 = lit x a 1 := by
  rw [lit]
  exact if_pos ⟨by omega, by omega, by simpa using hr⟩

theorem iter_inl {α β : Type} {K : Nat} {f : α → Option (α ⊕ β)} {a a' : α} (h : f a = some (.inl a')) : iter (K + 1) f a = iter K f a' := by simp only [iter, h]

theorem both (K' : Nat) (x : List UInt8) (hx : x.length ≤ 20000) (hK' : 130 < K') : ∀ (K a : Nat) (xs : List Int), a ≤ x.length → x.length - a < K → xs.length ≤ 2 * a →
    ∃ ys, iter K (F18_b0 K') (x, toB xs, (a : Int)) = some (toB ys) ∧ iter K (F19_b0 K') (x, (a : Int), xs) = some ys ∧ ys.length ≤ 40000
  | 0, a, xs, _, h, _ => absurd h (Nat.not_lt_zero _)
  | K + 1, a, xs, ha, hK, hl => by
    by_cases h1 : a < x.length
    · have i1 : (a : Int) < (x.length : Int) := by omega
      have hv := List.getElem?_eq_getElem h1
      obtain ⟨r1, r2, r3⟩ := run_le x a 1 (by omega) (by omega)
      by_cases h2 : 2 < run x a 1
      · have i2 : (2 : Int) < ((run x a 1 : Nat) : Int) := by omega
        have i3 : (3 : Int) ≤ ((run x a 1 : Nat) : Int) := by omega
        have e1 : w64 ((a : Int) + ((run x a 1 : Nat) : Int)) = ((a + run x a 1 : Nat) : Int) := by rw [w64_id (by omega) (by omega)]; omega
        have e2 : w64 ((a : Int) + 1) = ((a + 1 : Nat) : Int) := by rw [w64_id (by omega) (by omega)]; omega
        have e3 : subL x (a : Int) ((a + 1 : Nat) : Int) = [x[a]] := by
          simp only [subL, Int.toNat_natCast]
          rw [List.drop_eq_getElem_cons h1, show a + 1 - a = 1 by omega]
          rfl
        have e4 : toB [w8 (w64 (257 - ((run x a 1 : Nat) : Int))), ((x[a].toNat : Nat) : Int)] = toB [w8 (w64 (257 - ((run x a 1 : Nat) : Int)))] ++ [x[a]] := by
          simp [toB]
        obtain ⟨K2, rfl⟩ : ∃ K2, K' = K2 + 2 := ⟨K' - 2, by omega⟩
        have g1 : (toB xs).length + (toB [w8 (w64 (257 - ((run x a 1 : Nat) : Int))), ((x[a].toNat : Nat) : Int)]).length ≤ 9223372036854775807 := by rw [toB_len, toB_len]; simp; omega
        have g2 : (0 : Int) ≤ (a : Int) ∧ (a : Int) ≤ ((a + 1 : Nat) : Int) ∧ ((a + 1 : Nat) : Int) ≤ (x.length : Int) := by omega
        have g3 : (toB [w8 (w64 (257 - ((run x a 1 : Nat) : Int)))]).length + ([x[a]] : List UInt8).length ≤ 9223372036854775807 := by rw [toB_len]; simp
        have g4 : xs.length + (toB [w8 (w64 (257 - ((run x a 1 : Nat) : Int)))] ++ [x[a]]).length ≤ 100000 := by rw [List.length_append, toB_len]; simp; omega
        obtain ⟨ys, y1, y2, y3⟩ := both (K2 + 2) x hx hK' K (a + run x a 1) (xs ++ ofB (toB [w8 (w64 (257 - ((run x a 1 : Nat) : Int)))] ++ [x[a]])) r3 (by omega) (by simp [ofB, toB]; omega)
        rw [toB_app, toB_of, ← e4] at y1
        refine ⟨ys, ?_, ?_, y3⟩
        · simp only [iter, F18_b0, branch_ite, if_pos i1, F43_eq (K2 + 2) x a h1 hx (by omega), bindO_s, if_pos i2, nth_s hv, guard_dec g1, e1]
          exact y1
        · simp only [iter, F19_b0, branch_ite, if_pos i1, F44_eq (K2 + 2) x a h1 hx (by omega), bindO_s, if_pos i3, F46_one, e2, guard_dec g2, e3, guard_dec g3, F45_eq (K2 + 2) _ xs g4, e1]
          exact y2
      · have i2 : ¬ (2 : Int) < ((run x a 1 : Nat) : Int) := by omega
        have i3 : ¬ (3 : Int) ≤ ((run x a 1 : Nat) : Int) := by omega
        have hl01 := lit_01 h1 (by omega)
        obtain ⟨l1, l2, l3⟩ := lit_le x a 1 (by omega) (by omega)
        have s1 := iter18 K' x (toB xs) a hx (by omega) K' 0 (by omega) (by omega) (by omega)
        have s2 := iter19 K' x xs a hx (by omega) K' 1 (by omega) (by omega) (by omega)
        rw [hl01] at s1
        replace s1 : iter K' (F18_b1 K') (x, toB xs, (a : Int), (a : Int)) = some (x, toB xs, (a : Int), ((a + lit x a 1 : Nat) : Int)) := s1
        replace s2 : iter K' (F19_b1 K') (x, (a : Int), 1, xs) = some (x, (a : Int), ((lit x a 1 : Nat) : Int), xs) := s2
        have e1 : w64 ((a : Int) + ((lit x a 1 : Nat) : Int)) = ((a + lit x a 1 : Nat) : Int) := by rw [w64_id (by omega) (by omega)]; omega
        have e2 : w64 (((a + lit x a 1 : Nat) : Int) - (a : Int)) = ((lit x a 1 : Nat) : Int) := by rw [w64_id (by omega) (by omega)]; omega
        have e5 : (subL x (a : Int) ((a + lit x a 1 : Nat) : Int)).length = lit x a 1 := by simp only [subL, Int.toNat_natCast, List.length_take, List.length_drop]; omega
        obtain ⟨K2, rfl⟩ : ∃ K2, K' = K2 + 2 := ⟨K' - 2, by omega⟩
        have g1 : (toB xs).length + (toB [w8 (w64 (((lit x a 1 : Nat) : Int) - 1))]).length ≤ 9223372036854775807 := by rw [toB_len, toB_len]; simp; omega
        have g2 : (0 : Int) ≤ (a : Int) ∧ (a : Int) ≤ ((a + lit x a 1 : Nat) : Int) ∧ ((a + lit x a 1 : Nat) : Int) ≤ (x.length : Int) := by omega
        have g3 : (toB xs ++ toB [w8 (w64 (((lit x a 1 : Nat) : Int) - 1))]).length + (subL x (a : Int) ((a + lit x a 1 : Nat) : Int)).length ≤ 9223372036854775807 := by rw [e5, List.length_append, toB_len, toB_len]; simp; omega
        have g4 : (toB [w8 (w64 (((lit x a 1 : Nat) : Int) - 1))]).length + (subL x (a : Int) ((a + lit x a 1 : Nat) : Int)).length ≤ 9223372036854775807 := by rw [e5, toB_len]; simp; omega
        have g5 : xs.length + (toB [w8 (w64 (((lit x a 1 : Nat) : Int) - 1))] ++ subL x (a : Int) ((a + lit x a 1 : Nat) : Int)).length ≤ 100000 := by rw [List.length_append, toB_len, e5]; simp; omega
        obtain ⟨ys, y1, y2, y3⟩ := both (K2 + 2) x hx hK' K (a + lit x a 1) (xs ++ ofB (toB [w8 (w64 (((lit x a 1 : Nat) : Int) - 1))] ++ subL x (a : Int) ((a + lit x a 1 : Nat) : Int))) l3 (by omega) (by
          have : (ofB (toB [w8 (w64 (((lit x a 1 : Nat) : Int) - 1))] ++ subL x (a : Int) ((a + lit x a 1 : Nat) : Int))).length = 1 + lit x a 1 := by simp only [ofB, List.length_map, List.length_append, toB_len, e5]; simp
          rw [List.length_append, this]; omega)
        rw [toB_app, toB_of, ← List.append_assoc] at y1
        refine ⟨ys, ?_, ?_, y3⟩
        · refine (iter_inl ?_).trans y1
          simp only [F18_b0, branch_ite, if_pos i1, F43_eq (K2 + 2) x a h1 hx (by omega), bindO_s, if_neg i2, s1, e2, guard_dec g1, guard_dec g2, guard_dec g3]
        · refine (iter_inl ?_).trans y2
          simp only [F19_b0, branch_ite, if_pos i1, F44_eq (K2 + 2) x a h1 hx (by omega), bindO_s, if_neg i3, s2, F46_one, e1, guard_dec g2, guard_dec g4, F45_eq (K2 + 2) _ xs g5]
    · have i1 : ¬ (a : Int) < (x.length : Int) := by omega
      refine ⟨xs, ?_, ?_, by omega⟩
      · simp only [iter, F18_b0, branch_ite, if_neg i1]
      · simp only [iter, F19_b0, branch_ite, if_neg i1]

theorem F47_eq (K : Nat) (xs : List Int) (h : xs.length ≤ 40000) : F47 K xs = some (toB xs, xs) := by
  unfold F47
  rw [branch_ite]
  split
  · rename_i h0
    rw [guard_dec ⟨rfl, by simpa using h0, by omega⟩]
  · rename_i h0
    have : xs = [] := List.length_eq_zero_iff.1 (by simpa using h0)
    subst this
    rfl

theorem packed_law (a0 : T9.den) (h : T9.ok a0) : ∃ K, A4 K a0 = some true := by
  refine ⟨30000, ?_⟩
  show F4 30000 (a0 : List UInt8) = some true
  generalize hxx : (a0 : List UInt8) = x
  simp only [F4, branch_ite]
  split
  · rfl
  · by_cases h1 : 20000 < x.length
    · have i1 : (20000 : Int) < (x.length : Int) := by omega
      simp only [F18, F19, branch_ite, if_pos i1, bindO_s]
      rfl
    · have i1 : ¬ (20000 : Int) < (x.length : Int) := by omega
      obtain ⟨ys, y1, y2, y3⟩ := both 30000 x (by omega) (by omega) 30000 0 [] (Nat.zero_le _) (by omega) (by simp)
      replace y1 : iter 30000 (F18_b0 30000) (x, [], 0) = _ := y1
      replace y2 : iter 30000 (F19_b0 30000) (x, 0, []) = _ := y2
      simp only [F18, F19, branch_ite, if_neg i1, y1, y2, bindO_s, F47_eq 30000 ys y3]
      simp [branch_t, branch_f, bindO_s]

end Go.U.Try
