/- The laws of Packed and Unpacked at drawn texts, over the told functions. No condition. -/
import Derived.Test.YthiglohhocelfaaPUp
set_option linter.unusedVariables false
set_option linter.unusedSimpArgs false
namespace Go.U.Try
open Go Go.U
set_option linter.unusedVariables false
set_option linter.unusedSimpArgs false

/-! ### What is packed -/

def pk (x : List UInt8) : Nat → Nat → List UInt8
  | 0, _ => []
  | m + 1, a => if a < x.length then
      if 2 < run x a 1 then UInt8.ofNat (257 - run x a 1) :: (x.drop a).headD 0 :: pk x m (a + run x a 1)
      else UInt8.ofNat (lit x a 1 - 1) :: ((x.drop a).take (lit x a 1) ++ pk x m (a + lit x a 1))
    else []

theorem toB_w8 (n : Nat) (h : n ≤ 255) : toB [w8 (w64 (n : Int))] = [UInt8.ofNat n] := by
  rw [w64_id (by omega) (by omega), w8_id (by omega) (by omega)]
  simp [toB]

theorem bothP (K' : Nat) (x : List UInt8) (hx : x.length ≤ 20000) (hK' : 130 < K') : ∀ (K m a : Nat) (xs : List Int), a ≤ x.length → x.length - a < K → x.length - a < m → xs.length ≤ 2 * a →
    (iter K (F18_b0 K') (x, toB xs, (a : Int)) = some (toB xs ++ pk x m a) ∧ iter K (F19_b0 K') (x, (a : Int), xs) = some (xs ++ ofB (pk x m a))) ∧ xs.length + (pk x m a).length ≤ 40000
  | 0, m, a, xs, _, h, _, _ => absurd h (Nat.not_lt_zero _)
  | K + 1, 0, a, xs, _, _, h, _ => absurd h (Nat.not_lt_zero _)
  | K + 1, m + 1, a, xs, ha, hK, hm, hl => by
    by_cases h1 : a < x.length
    · have i1 : (a : Int) < (x.length : Int) := by omega
      have hv := List.getElem?_eq_getElem h1
      obtain ⟨r1, r2, r3⟩ := run_le x a 1 (by omega) (by omega)
      obtain ⟨K2, rfl⟩ : ∃ K2, K' = K2 + 2 := ⟨K' - 2, by omega⟩
      simp only [pk, if_pos h1]
      by_cases h2 : 2 < run x a 1
      · have i2 : (2 : Int) < ((run x a 1 : Nat) : Int) := by omega
        have i3 : (3 : Int) ≤ ((run x a 1 : Nat) : Int) := by omega
        have e1 : w64 ((a : Int) + ((run x a 1 : Nat) : Int)) = ((a + run x a 1 : Nat) : Int) := by rw [w64_id (by omega) (by omega)]; omega
        have e2 : w64 ((a : Int) + 1) = ((a + 1 : Nat) : Int) := by rw [w64_id (by omega) (by omega)]; omega
        have e3 : subL x (a : Int) ((a + 1 : Nat) : Int) = [x[a]] := by
          simp only [subL, Int.toNat_natCast]
          rw [List.drop_eq_getElem_cons h1, show a + 1 - a = 1 by omega]
          rfl
        have e0 : (x.drop a).headD 0 = x[a] := by rw [List.drop_eq_getElem_cons h1]; rfl
        have e5 : (257 - ((run x a 1 : Nat) : Int)) = ((257 - run x a 1 : Nat) : Int) := by omega
        have e6 := toB_w8 (257 - run x a 1) (by omega)
        have e7 : w8 (w64 ((257 - run x a 1 : Nat) : Int)) = ((257 - run x a 1 : Nat) : Int) := by rw [w64_id (by omega) (by omega), w8_id (by omega) (by omega)]
        have e4 : toB [((257 - run x a 1 : Nat) : Int), ((x[a].toNat : Nat) : Int)] = [UInt8.ofNat (257 - run x a 1), x[a]] := by simp [toB]
        have g1 : (toB xs).length + ([UInt8.ofNat (257 - run x a 1), x[a]] : List UInt8).length ≤ 9223372036854775807 := by rw [toB_len]; simp; omega
        have g2 : (0 : Int) ≤ (a : Int) ∧ (a : Int) ≤ ((a + 1 : Nat) : Int) ∧ ((a + 1 : Nat) : Int) ≤ (x.length : Int) := by omega
        have g3 : ([UInt8.ofNat (257 - run x a 1)] : List UInt8).length + ([x[a]] : List UInt8).length ≤ 9223372036854775807 := by simp
        have g4 := F45_eq (K2 + 2) ([UInt8.ofNat (257 - run x a 1)] ++ [x[a]]) xs (by simp; omega)
        have ih := bothP (K2 + 2) x hx hK' K m (a + run x a 1) (xs ++ ofB [UInt8.ofNat (257 - run x a 1), x[a]]) r3 (by omega) (by omega) (by simp [ofB]; omega)
        obtain ⟨⟨y1, y2⟩, y3⟩ := ih
        rw [toB_app, toB_of] at y1
        rw [if_pos h2, e0]
        refine ⟨⟨?_, ?_⟩, ?_⟩
        · refine (iter_inl (a' := (x, toB xs ++ [UInt8.ofNat (257 - run x a 1), x[a]], ((a + run x a 1 : Nat) : Int))) ?_).trans (y1.trans ?_)
          · simp only [F18_b0, branch_ite, if_pos i1, F43_eq (K2 + 2) x a h1 hx (by omega), bindO_s, if_pos i2, nth_s hv, e5, e7, e4, guard_dec g1, e1]
          · simp
        · refine (iter_inl (a' := (x, ((a + run x a 1 : Nat) : Int), xs ++ ofB [UInt8.ofNat (257 - run x a 1), x[a]])) ?_).trans (y2.trans ?_)
          · simp only [F19_b0, branch_ite, if_pos i1, F44_eq (K2 + 2) x a h1 hx (by omega), bindO_s, if_pos i3, F46_one, e5, e6, e2, guard_dec g2, e3, guard_dec g3, g4, e1]
            rfl
          · simp [ofB]
        · simp [ofB] at y3 ⊢
          omega
      · have i2 : ¬ (2 : Int) < ((run x a 1 : Nat) : Int) := by omega
        have i3 : ¬ (3 : Int) ≤ ((run x a 1 : Nat) : Int) := by omega
        have hl01 := lit_01 h1 (by omega)
        obtain ⟨l1, l2, l3⟩ := lit_le x a 1 (by omega) (by omega)
        have s1 := iter18 (K2 + 2) x (toB xs) a hx (by omega) (K2 + 2) 0 (by omega) (by omega) (by omega)
        have s2 := iter19 (K2 + 2) x xs a hx (by omega) (K2 + 2) 1 (by omega) (by omega) (by omega)
        rw [hl01] at s1
        replace s1 : iter (K2 + 2) (F18_b1 (K2 + 2)) (x, toB xs, (a : Int), (a : Int)) = some (x, toB xs, (a : Int), ((a + lit x a 1 : Nat) : Int)) := s1
        replace s2 : iter (K2 + 2) (F19_b1 (K2 + 2)) (x, (a : Int), 1, xs) = some (x, (a : Int), ((lit x a 1 : Nat) : Int), xs) := s2
        have e1 : w64 ((a : Int) + ((lit x a 1 : Nat) : Int)) = ((a + lit x a 1 : Nat) : Int) := by rw [w64_id (by omega) (by omega)]; omega
        have e2 : w64 (((a + lit x a 1 : Nat) : Int) - (a : Int)) = ((lit x a 1 : Nat) : Int) := by rw [w64_id (by omega) (by omega)]; omega
        have e4 : subL x (a : Int) ((a + lit x a 1 : Nat) : Int) = (x.drop a).take (lit x a 1) := by simp only [subL, Int.toNat_natCast]; congr 1; omega
        have e5 : ((x.drop a).take (lit x a 1)).length = lit x a 1 := by rw [List.length_take, List.length_drop]; omega
        have e6 : ((lit x a 1 : Nat) : Int) - 1 = ((lit x a 1 - 1 : Nat) : Int) := by omega
        have e7 := toB_w8 (lit x a 1 - 1) (by omega)
        have g1 : (toB xs).length + ([UInt8.ofNat (lit x a 1 - 1)] : List UInt8).length ≤ 9223372036854775807 := by rw [toB_len]; simp; omega
        have g2 : (0 : Int) ≤ (a : Int) ∧ (a : Int) ≤ ((a + lit x a 1 : Nat) : Int) ∧ ((a + lit x a 1 : Nat) : Int) ≤ (x.length : Int) := by omega
        have g3 : (toB xs ++ [UInt8.ofNat (lit x a 1 - 1)]).length + ((x.drop a).take (lit x a 1)).length ≤ 9223372036854775807 := by rw [e5, List.length_append, toB_len]; simp; omega
        have g4 : ([UInt8.ofNat (lit x a 1 - 1)] : List UInt8).length + ((x.drop a).take (lit x a 1)).length ≤ 9223372036854775807 := by rw [e5]; simp; omega
        have g5 := F45_eq (K2 + 2) ([UInt8.ofNat (lit x a 1 - 1)] ++ (x.drop a).take (lit x a 1)) xs (by rw [List.length_append, e5]; simp; omega)
        have hlen : (ofB ([UInt8.ofNat (lit x a 1 - 1)] ++ (x.drop a).take (lit x a 1))).length = 1 + lit x a 1 := by simp only [ofB, List.length_map, List.length_append, e5]; rfl
        have ih := bothP (K2 + 2) x hx hK' K m (a + lit x a 1) (xs ++ ofB ([UInt8.ofNat (lit x a 1 - 1)] ++ (x.drop a).take (lit x a 1))) l3 (by omega) (by omega) (by rw [List.length_append, hlen]; omega)
        obtain ⟨⟨y1, y2⟩, y3⟩ := ih
        rw [toB_app, toB_of] at y1
        rw [if_neg h2]
        refine ⟨⟨?_, ?_⟩, ?_⟩
        · refine (iter_inl (a' := (x, toB xs ++ ([UInt8.ofNat (lit x a 1 - 1)] ++ (x.drop a).take (lit x a 1)), ((a + lit x a 1 : Nat) : Int))) ?_).trans (y1.trans ?_)
          · simp only [F18_b0, branch_ite, if_pos i1, F43_eq (K2 + 2) x a h1 hx (by omega), bindO_s, if_neg i2, s1, e2, e6, e7, e4, guard_dec g1, guard_dec g2, guard_dec g3, List.append_assoc]
          · simp
        · refine (iter_inl (a' := (x, ((a + lit x a 1 : Nat) : Int), xs ++ ofB ([UInt8.ofNat (lit x a 1 - 1)] ++ (x.drop a).take (lit x a 1)))) ?_).trans (y2.trans ?_)
          · simp only [F19_b0, branch_ite, if_pos i1, F44_eq (K2 + 2) x a h1 hx (by omega), bindO_s, if_neg i3, s2, F46_one, e6, e7, e1, e4, guard_dec g2, guard_dec g4, g5]
          · simp [ofB]
        · rw [List.length_append, hlen] at y3
          simp only [List.length_cons, List.length_append, e5]
          omega
    · have i1 : ¬ (a : Int) < (x.length : Int) := by omega
      simp only [pk, if_neg h1, ofB, List.map_nil, List.append_nil]
      exact ⟨⟨iter_inr (by simp only [F18_b0, branch_ite, if_neg i1]), iter_inr (by simp only [F19_b0, branch_ite, if_neg i1])⟩, by simp; omega⟩

theorem pkR_eq (K : Nat) (x : List UInt8) (hx : x.length ≤ 20000) (hK : 20001 < K) : F18 K x = some (pk x (x.length + 1) 0, true) ∧ F19 K x = some (pk x (x.length + 1) 0, true) := by
  have i1 : ¬ (20000 : Int) < (x.length : Int) := by omega
  obtain ⟨⟨b1, b2⟩, b3⟩ := bothP K x hx (by omega) K (x.length + 1) 0 [] (Nat.zero_le _) (by omega) (by omega) (by simp)
  replace b1 : iter K (F18_b0 K) (x, [], 0) = some ([] ++ pk x (x.length + 1) 0) := b1
  replace b2 : iter K (F19_b0 K) (x, 0, []) = _ := b2
  simp only [List.length_nil, List.nil_append] at b1 b2 b3
  simp only [F18, F19, branch_ite, if_neg i1, b1, b2, bindO_s, F47_eq K (ofB (pk x (x.length + 1) 0)) (by simp [ofB]; omega), toB_of]
  simp

/-! ### It comes back -/

theorem run_same (x : List UInt8) (a n : Nat) (hn : n ≤ 128) (h0 : ∀ j, j < n → x[a + j]? = x[a]?) : ∀ j, j < run x a n → x[a + j]? = x[a]? := by
  rw [run]
  split
  · rename_i h
    exact run_same x a (n + 1) (by omega) fun j hj => by
      by_cases e : j = n
      · subst e; exact h.2.2
      · exact h0 j (by omega)
  · exact h0
termination_by 128 - n

theorem lit_stop (x : List UInt8) (f n : Nat) (hn : n ≤ 128) (hf : f + n ≤ x.length) : lit x f n = 128 ∨ f + lit x f n = x.length ∨ 2 < run x (f + lit x f n) 1 := by
  rw [lit]
  split
  · exact lit_stop x f (n + 1) (by omega) (by omega)
  · omega
termination_by 128 - n

theorem rep_drop (x : List UInt8) (a r : Nat) (c : UInt8) (hr : a + r ≤ x.length) (h : ∀ j, j < r → x[a + j]? = some c) : List.replicate r c ++ x.drop (a + r) = x.drop a := by
  apply List.ext_getElem?
  intro i
  by_cases hi : i < r
  · rw [List.getElem?_append_left (by simpa using hi), List.getElem?_drop, h i hi, List.getElem?_replicate, if_pos hi]
  · rw [List.getElem?_append_right (by simp; omega), List.getElem?_drop, List.getElem?_drop, List.length_replicate]
    congr 1
    omega

theorem unp_pk (x : List UInt8) (hx : x.length ≤ 20000) : ∀ (m a m' : Nat), a ≤ x.length → x.length - a < m → (pk x m a).length < m' → unp m' (pk x m a) a = some (x.drop a)
  | 0, a, m', _, h, _ => absurd h (Nat.not_lt_zero _)
  | m + 1, a, 0, _, _, h => absurd h (Nat.not_lt_zero _)
  | m + 1, a, m' + 1, ha, hm, hm' => by
    by_cases h1 : a < x.length
    · obtain ⟨r1, r2, r3⟩ := run_le x a 1 (by omega) (by omega)
      have hv := List.getElem?_eq_getElem h1
      simp only [pk, if_pos h1] at hm' ⊢
      by_cases h2 : 2 < run x a 1
      · rw [if_pos h2] at hm' ⊢
        have e0 : (x.drop a).headD 0 = x[a] := by rw [List.drop_eq_getElem_cons h1]; rfl
        have e1 : (UInt8.ofNat (257 - run x a 1)).toNat = 257 - run x a 1 := by simp; omega
        have e2 : 257 - (257 - run x a 1) = run x a 1 := by omega
        have ih := unp_pk x hx m (a + run x a 1) m' r3 (by omega) (by simp at hm'; omega)
        have hs := run_same x a 1 (by omega) (fun j hj => by have : j = 0 := by omega
                                                             subst this; rfl)
        rw [e0]
        simp only [unp, e1, e2, List.length_cons, List.drop_succ_cons, List.drop_zero, List.headD_cons, ih]
        rw [if_neg (by omega), if_pos (by omega), if_neg (by omega)]
        simp only [rep_drop x a (run x a 1) x[a] r3 (fun j hj => (hs j hj).trans hv)]
      · rw [if_neg h2] at hm' ⊢
        obtain ⟨l1, l2, l3⟩ := lit_le x a 1 (by omega) (by omega)
        have e1 : (UInt8.ofNat (lit x a 1 - 1)).toNat = lit x a 1 - 1 := by simp; omega
        have e2 : lit x a 1 - 1 + 1 = lit x a 1 := by omega
        have e5 : ((x.drop a).take (lit x a 1)).length = lit x a 1 := by rw [List.length_take, List.length_drop]; omega
        have e6 : ((x.drop a).take (lit x a 1) ++ pk x m (a + lit x a 1)).length = lit x a 1 + (pk x m (a + lit x a 1)).length := by rw [List.length_append, e5]
        have e7 : ((x.drop a).take (lit x a 1) ++ pk x m (a + lit x a 1)).drop (lit x a 1) = pk x m (a + lit x a 1) := List.drop_left' e5
        have e8 : ((x.drop a).take (lit x a 1) ++ pk x m (a + lit x a 1)).take (lit x a 1) = (x.drop a).take (lit x a 1) := List.take_left' e5
        have ih := unp_pk x hx m (a + lit x a 1) m' l3 (by omega) (by simp only [List.length_cons, e6] at hm'; omega)
        simp only [unp, e1, e2, e6, e7, e8, ih]
        rw [if_neg (by omega), if_neg (by omega), if_neg (by omega), if_neg (by omega)]
        have : (x.drop a).take (lit x a 1) ++ x.drop (a + lit x a 1) = x.drop a := by rw [← List.drop_drop]; exact List.take_append_drop _ _
        simp only [this]
    · simp only [pk, if_neg h1, unp]
      rw [List.drop_eq_nil_of_le (by omega)]

theorem pk_len (x : List UInt8) : ∀ (m a : Nat), a ≤ x.length → x.length - a < m →
    (pk x m a).length + a + a / 128 ≤ x.length + x.length / 128 + 1 ∧ ((a = x.length ∨ 2 < run x a 1) → (pk x m a).length + a + a / 128 ≤ x.length + x.length / 128)
  | 0, a, _, h => absurd h (Nat.not_lt_zero _)
  | m + 1, a, ha, hm => by
    by_cases h1 : a < x.length
    · obtain ⟨r1, r2, r3⟩ := run_le x a 1 (by omega) (by omega)
      simp only [pk, if_pos h1]
      by_cases h2 : 2 < run x a 1
      · rw [if_pos h2]
        have ih := (pk_len x m (a + run x a 1) r3 (by omega)).1
        simp only [List.length_cons]
        refine ⟨by omega, fun _ => by omega⟩
      · rw [if_neg h2]
        obtain ⟨l1, l2, l3⟩ := lit_le x a 1 (by omega) (by omega)
        have e5 : ((x.drop a).take (lit x a 1)).length = lit x a 1 := by rw [List.length_take, List.length_drop]; omega
        obtain ⟨i1, i2⟩ := pk_len x m (a + lit x a 1) l3 (by omega)
        simp only [List.length_cons, List.length_append, e5]
        refine ⟨?_, fun h => by omega⟩
        rcases lit_stop x a 1 (by omega) (by omega) with h | h
        · rw [h] at i1 ⊢; omega
        · have := i2 h
          omega
    · simp only [pk, if_neg h1, List.length_nil]
      have : a = x.length := by omega
      subst this
      omega

theorem unR_pk (x : List UInt8) (hx : x.length ≤ 20000) : unR (pk x (x.length + 1) 0) = (x, true) := by
  have hl := (pk_len x (x.length + 1) 0 (Nat.zero_le _) (by omega)).1
  have h1 : (pk x (x.length + 1) 0).length ≤ 40000 := by omega
  have h2 := unp_pk x hx (x.length + 1) 0 ((pk x (x.length + 1) 0).length + 1) (Nat.zero_le _) (by omega) (by omega)
  rw [List.drop_zero] at h2
  simp only [unR, if_pos h1, h2]

/-! ### The reader -/

def RdOk (r : List Int × Int) : Prop := (∀ v ∈ r.1, 0 ≤ v ∧ v ≤ 255) ∧ r.1.length ≤ 1048576 ∧ 0 ≤ r.2 ∧ r.2 ≤ 1048576

theorem F74_ok (K : Nat) (r : List Int × Int) (h : RdOk r) : ∃ v r', F74 K r = some (v, r') ∧ (0 ≤ v ∧ v ≤ 255) ∧ RdOk r' := by
  obtain ⟨hb, hl, h0, h1⟩ := h
  simp only [F74, branch_ite]
  split
  · exact ⟨0, r, rfl, by omega, hb, hl, h0, h1⟩
  · rename_i g
    obtain ⟨p, hp⟩ : ∃ p : Nat, r.2 = (p : Int) := ⟨r.2.toNat, by omega⟩
    have hp' : p < r.1.length := by omega
    have e1 : w64 (r.2 + 1) = r.2 + 1 := w64_id (by omega) (by omega)
    have e2 : w64 (r.2 + 1 - 1) = (p : Int) := by rw [w64_id (by omega) (by omega)]; omega
    have hv := List.getElem?_eq_getElem hp'
    have hb' := hb _ (List.getElem_mem hp')
    simp only [e1, e2, nth_s hv]
    refine ⟨_, _, rfl, ?_, hb, hl, by simp; omega, by simp; omega⟩
    rw [w64_id (by omega) (by omega)]
    exact hb'

theorem F52_ok (K : Nat) (n : Int) (r : List Int × Int) (h : RdOk r) (hn : 1 ≤ n) : ∃ v r', F52 K (n, r) = some (v, r') ∧ (0 ≤ v ∧ v < n) ∧ RdOk r' := by
  simp only [F52, branch_ite]
  split
  · exact ⟨_, _, rfl, by omega, h⟩
  · obtain ⟨v, r', e, hv, hr⟩ := F74_ok K r h
    have e1 : (!(decide (n = 0))) = true := by rw [decide_eq_false (by omega)]; rfl
    split
    · simp only [e, bindO_s, e1, guard_t]
      exact ⟨_, _, rfl, ⟨Int.tmod_nonneg _ (by omega), Int.tmod_lt_of_pos _ (by omega)⟩, hr⟩
    · obtain ⟨v2, r2, e2, hv2, hr2⟩ := F74_ok K r' hr
      have e3 : w64 (v * 256) = v * 256 := w64_id (by omega) (by omega)
      have e4 : w64 (v * 256 + v2) = v * 256 + v2 := w64_id (by omega) (by omega)
      simp only [e, e2, bindO_s, e1, guard_t, e3, e4]
      exact ⟨_, _, rfl, ⟨Int.tmod_nonneg _ (by omega), Int.tmod_lt_of_pos _ (by omega)⟩, hr2⟩

theorem F57_ok (K : Nat) (n : Int) (r : List Int × Int) (h : RdOk r) (hn : 1 ≤ n) : ∃ b r', F57 K (n, r) = some (b, r') ∧ RdOk r' := by
  obtain ⟨v, r', e, hv, hr⟩ := F52_ok K n r h hn
  simp only [F57, e, bindO_s]
  exact ⟨_, _, rfl, hr⟩

theorem iter29 (K' : Nat) (i b n : Int) (r : List Int × Int) (hn : n ≤ 130) : ∀ (K : Nat) (k : Nat) (out : List Int), 130 - k < K → k ≤ 131 → out.length ≤ 10000 + k →
    ∃ out', iter K (F29_b1 K') (i, b, n, (k : Int), out, r) = some (i, out', r) ∧ out'.length + k ≤ out.length + 130 + k ∧ out'.length ≤ out.length + (n.toNat - k)
  | 0, _, _, h, _, _ => absurd h (Nat.not_lt_zero _)
  | K + 1, k, out, hK, hk, ho => by
    by_cases h1 : (k : Int) < n
    · have e3 : w64 ((k : Int) + 1) = ((k + 1 : Nat) : Int) := by rw [w64_id (by omega) (by omega)]; omega
      have g : fitN (out.length + [b].length) 1 = true := fit1 (by simp; omega)
      obtain ⟨out', h2, h3, h4⟩ := iter29 K' i b n r hn K (k + 1) (out ++ [b]) (by omega) (by omega) (by simp; omega)
      refine ⟨out', ?_, ?_, ?_⟩
      · refine (iter_inl ?_).trans h2
        simp only [F29_b1, branch_ite, if_pos h1, g, guard_t, e3]
      · simp at h4; omega
      · simp at h4; omega
    · exact ⟨out, iter_inr (by simp only [F29_b1, branch_ite, if_neg h1]), by omega, by omega⟩

theorem F29_ok (K : Nat) (x : List Int) (hb : ∀ v ∈ x, 0 ≤ v ∧ v ≤ 255) (hl : x.length ≤ 1048576) (hK : 140 < K) : ∃ s, F29 K x = some s ∧ s.length ≤ 1040 := by
  obtain ⟨n, r1, e1, hn, hr1⟩ := F52_ok K 8 (x, 0) ⟨hb, hl, by simp, by simp⟩ (by omega)
  obtain ⟨b, h1, h2⟩ := iter_inv (f := F29_b0 K) (fun a => 0 ≤ a.1 ∧ a.1 < 8 ∧ (a.2.1.length : Int) ≤ 130 * (8 - a.1) ∧ RdOk a.2.2) (fun a => a.1.toNat) (fun b => b.length ≤ 1040) (fun a ⟨g0, g1, g2, g3⟩ => by
    obtain ⟨i, out, rd⟩ := a
    simp only at g0 g1 g2 g3
    by_cases g : 0 < i
    · obtain ⟨v, r2, e2, hv, hr2⟩ := F52_ok K 4 rd g3 (by omega)
      obtain ⟨u, r3, e3, hu, hr3⟩ := F52_ok K 8 r2 hr2 (by omega)
      obtain ⟨c, r4, e4, hr4⟩ := F57_ok K 2 r3 hr3 (by omega)
      have hq : u.toNat < ([1, 2, 3, 4, 127, 128, 129, 130] : List Int).length := by simp; omega
      have hm : ∀ t ∈ ([1, 2, 3, 4, 127, 128, 129, 130] : List Int), 0 ≤ t ∧ t ≤ 130 := by simp
      have hm' := hm _ (List.getElem_mem hq)
      have e5 : w64 (i - 1) = i - 1 := w64_id (by omega) (by omega)
      cases c with
      | false =>
        obtain ⟨out', o1, o2, o3⟩ := iter29 K i (w8 v) (([1, 2, 3, 4, 127, 128, 129, 130] : List Int)[u.toNat]) r4 hm'.2 K 0 out (by omega) (by omega) (by omega)
        replace o1 : iter K (F29_b1 K) (i, w8 v, ([1, 2, 3, 4, 127, 128, 129, 130] : List Int)[u.toNat], 0, out, r4) = _ := o1
        refine .inl ⟨_, by simp only [F29_b0, branch_ite, if_pos g, e2, e3, bindO_s, guard_dec hu, nthN_s (List.getElem?_eq_getElem hq), e4, branch_f, o1, e5] <;> rfl, ⟨by simp; omega, by simp; omega, by simp; omega, hr4⟩, by simp; omega⟩
      | true =>
        obtain ⟨z, r5, e6, hz, hr5⟩ := F52_ok K 4 r4 hr4 (by omega)
        have e7 : w64 (1 + z) = 1 + z := w64_id (by omega) (by omega)
        obtain ⟨out', o1, o2, o3⟩ := iter29 K i (w8 v) (1 + z) r5 (by omega) K 0 out (by omega) (by omega) (by omega)
        replace o1 : iter K (F29_b1 K) (i, w8 v, 1 + z, 0, out, r5) = _ := o1
        refine .inl ⟨_, by simp only [F29_b0, branch_ite, if_pos g, e2, e3, bindO_s, guard_dec hu, nthN_s (List.getElem?_eq_getElem hq), e4, branch_t, e6, e7, o1, e5] <;> rfl, ⟨by simp; omega, by simp; omega, by simp; omega, hr5⟩, by simp; omega⟩
    · exact .inr ⟨out, by simp only [F29_b0, branch_ite, if_neg g], by omega⟩) K (n, [], r1) ⟨by simp; omega, by simp; omega, by simp; omega, hr1⟩ (by simp; omega)
  refine ⟨toB b, ?_, by rw [toB_len]; omega⟩
  simp only [F29, F50, e1, bindO_s, h1]

theorem F70_ok (K : Nat) (s : List UInt8) (r : List Int × Int) (h : RdOk r) (hs : s.length ≤ 5000) : ∃ s' r', F70 K (s, r) = some (s', r') ∧ s'.length ≤ s.length + 1 := by
  obtain ⟨v, r1, e1, hv, hr1⟩ := F52_ok K 6 r h (by omega)
  have e0 : w64 ((s.length : Int) + 1) = (s.length : Int) + 1 := w64_id (by omega) (by omega)
  simp only [F70, e1, bindO_s, branch_ite]
  split
  · obtain ⟨u, r2, e2, hu, hr2⟩ := F52_ok K ((s.length : Int) + 1) r1 hr1 (by omega)
    have g : 0 ≤ u ∧ u ≤ (s.length : Int) := by omega
    simp only [e0, e2, bindO_s, guard_dec g]
    exact ⟨_, _, rfl, by simp [tkL]; omega⟩
  · split
    · split
      · rename_i hl
        obtain ⟨u, r2, e2, hu, hr2⟩ := F52_ok K (s.length : Int) r1 hr1 (by omega)
        have g : 0 ≤ u ∧ u ≤ (s.length : Int) := by omega
        obtain ⟨z, r3, e3, hz, hr3⟩ := F52_ok K 6 r2 hr2 (by omega)
        have hq : z.toNat < ([[48], [97], [32], [44], [36], [43]] : List (List UInt8)).length := by simp; omega
        have hm : ∀ t ∈ ([[48], [97], [32], [44], [36], [43]] : List (List UInt8)), t.length = 1 := by simp
        have hm' := hm _ (List.getElem_mem hq)
        have e4 : w64 (u + 1) = u + 1 := w64_id (by omega) (by omega)
        have g2 : 0 ≤ u + 1 ∧ u + 1 ≤ (s.length : Int) := by omega
        have l1 : (tkL s u).length = u.toNat := by simp [tkL]; omega
        have l2 : (dpL s (u + 1)).length = s.length - (u + 1).toNat := by simp [dpL]
        have g3 : (tkL s u).length + (([[48], [97], [32], [44], [36], [43]] : List (List UInt8))[z.toNat]).length ≤ 9223372036854775807 := by rw [l1, hm']; omega
        have g4 : (tkL s u ++ ([[48], [97], [32], [44], [36], [43]] : List (List UInt8))[z.toNat]).length + (dpL s (u + 1)).length ≤ 9223372036854775807 := by rw [List.length_append, l1, l2, hm']; omega
        simp only [e2, bindO_s, guard_dec g, e3, nth_z hz.1 (List.getElem?_eq_getElem hq), guard_dec g3, e4, guard_dec g2, guard_dec g4]
        exact ⟨_, _, rfl, by rw [List.length_append, List.length_append, l1, l2, hm']; omega⟩
      · exact ⟨_, _, rfl, by omega⟩
    · split
      · obtain ⟨u, r2, e2, hu, hr2⟩ := F52_ok K 3 r1 hr1 (by omega)
        have hq : u.toNat < ([[32], [48], [120]] : List (List UInt8)).length := by simp; omega
        have hm : ∀ t ∈ ([[32], [48], [120]] : List (List UInt8)), t.length = 1 := by simp
        have hm' := hm _ (List.getElem_mem hq)
        have g3 : s.length + (([[32], [48], [120]] : List (List UInt8))[u.toNat]).length ≤ 9223372036854775807 := by rw [hm']; omega
        simp only [e2, bindO_s, guard_dec hu, nthN_s (List.getElem?_eq_getElem hq), guard_dec g3]
        exact ⟨_, _, rfl, by rw [List.length_append, hm']; omega⟩
      · exact ⟨_, _, rfl, by omega⟩

theorem F36_ok (K : Nat) (x : List Int) (hb : ∀ v ∈ x, 0 ≤ v ∧ v ≤ 255) (hl : x.length ≤ 1048576) (hK : 20001 < K) : ∃ s, F36 K x = some s ∧ s.length ≤ 5000 := by
  obtain ⟨s, e1, hs⟩ := F29_ok K x hb hl (by omega)
  have e2 := (pkR_eq K s (by omega) hK).1
  have hp := (pk_len s (s.length + 1) 0 (Nat.zero_le _) (by omega)).1
  obtain ⟨c, r1, e3, hr1⟩ := F57_ok K 3 (x, 0) ⟨hb, hl, by simp, by simp⟩ (by omega)
  simp only [F36, F50, e1, bindO_s, e2, e3]
  cases c with
  | false => exact ⟨_, rfl, by omega⟩
  | true =>
    obtain ⟨s', r2, e4, hs'⟩ := F70_ok K (pk s (s.length + 1) 0) r1 hr1 (by omega)
    simp only [branch_t, e4, bindO_s]
    exact ⟨_, rfl, by omega⟩

theorem F10_true (x : List Int) (hb : ∀ v ∈ x, 0 ≤ v ∧ v ≤ 255) (hx : x.length ≤ maxLen) : F10 50000 x = some true := by
  simp only [F10, F22, bindO_s, branch_ite]
  split
  · rfl
  · rename_i g
    obtain ⟨s, e, hs⟩ := F29_ok 50000 x hb (by omega) (by omega)
    obtain ⟨e1, e2⟩ := pkR_eq 50000 s (by omega) (by omega)
    have e3 := (unR_eq 50000 (pk s (s.length + 1) 0) (by omega)).2
    rw [unR_pk s (by omega)] at e3
    have hp := (pk_len s (s.length + 1) 0 (Nat.zero_le _) (by omega)).1
    have e4 : Int.tdiv (s.length : Int) 128 = ((s.length / 128 : Nat) : Int) := by rw [Int.tdiv_eq_ediv_of_nonneg (by omega)]; omega
    have e5 : w64 ((s.length / 128 : Nat) : Int) = ((s.length / 128 : Nat) : Int) := w64_id (by omega) (by omega)
    have e6 : w64 ((s.length : Int) + ((s.length / 128 : Nat) : Int)) = (s.length : Int) + ((s.length / 128 : Nat) : Int) := w64_id (by omega) (by omega)
    have e7 : w64 ((s.length : Int) + ((s.length / 128 : Nat) : Int) + 1) = (s.length : Int) + ((s.length / 128 : Nat) : Int) + 1 := w64_id (by omega) (by omega)
    have e8 : ((pk s (s.length + 1) 0).length : Int) ≤ (s.length : Int) + ((s.length / 128 : Nat) : Int) + 1 := by omega
    simp only [e, bindO_s, e1, e2, decide_true, Bool.not_true, branch_f, csO_r, e3, branch_t, if_true, e4, e5, e6, e7, decide_eq_true e8]

theorem fnPacked_law (a0 : T34.den) (h0 : T34.ok a0) : ∃ K, A10 K a0 = some true :=
  ⟨_, F10_true a0 (fun v hv => by have := h0.2 v hv; simp only [Ty.ok] at this; exact ⟨this.1, this.2⟩) h0.1⟩

theorem F12_true (x : List Int) (hb : ∀ v ∈ x, 0 ≤ v ∧ v ≤ 255) (hx : x.length ≤ maxLen) : F12 50000 x = some true := by
  simp only [F12, F22, bindO_s, branch_ite]
  split
  · rfl
  · rename_i g
    obtain ⟨p, e, hp⟩ := F36_ok 50000 x hb (by omega) (by omega)
    obtain ⟨e1, e2⟩ := unR_eq 50000 p (by omega)
    simp only [e, bindO_s, e1, e2, decide_true, Bool.not_true, branch_f]
    cases h2 : (unR p).2 with
    | false => simp [branch_t, bindO_s, csO_l, h2, branch_ite]
    | true =>
      have hs : (unR p).1.length ≤ 20000 := by
        unfold unR
        split
        · cases hu : unp (p.length + 1) p 0 with
          | none => simp
          | some t =>
            have := unp_len _ _ _ _ hu (by omega)
            simp
            omega
        · simp
      obtain ⟨e3, e4⟩ := pkR_eq 50000 (unR p).1 hs (by omega)
      have e5 := (unR_eq 50000 (pk (unR p).1 ((unR p).1.length + 1) 0) (by omega)).2
      rw [unR_pk (unR p).1 hs] at e5
      simp only [Bool.not_true, branch_f, bindO_s, csO_r, e4, e5, branch_t, decide_true]

theorem fnUnpacked_law (a0 : T34.den) (h0 : T34.ok a0) : ∃ K, A12 K a0 = some true :=
  ⟨_, F12_true a0 (fun v hv => by have := h0.2 v hv; simp only [Ty.ok] at this; exact ⟨this.1, this.2⟩) h0.1⟩

end Go.U.Try
