/- The law of Unpacked, over the told functions. No condition. -/
import Derived.Test.YthiglohhocelfaaPPk
set_option linter.unusedVariables false
set_option linter.unusedSimpArgs false
namespace Go.U.Try
open Go Go.U
set_option linter.unusedVariables false
set_option linter.unusedSimpArgs false

theorem iter_inr {α β : Type} {K : Nat} {f : α → Option (α ⊕ β)} {a : α} {b : β} (h : f a = some (.inr b)) : iter (K + 1) f a = some b := by simp only [iter, h]

/-- What is unpacked, where o bytes are told. -/
def unp : Nat → List UInt8 → Nat → Option (List UInt8)
  | 0, _, _ => none
  | _ + 1, [], _ => some []
  | f + 1, b :: q, o =>
    if b.toNat = 128 ∨ q.length = 0 then none
    else if 128 < b.toNat then
      if 20000 < o + (257 - b.toNat) then none else
      match unp f (q.drop 1) (o + (257 - b.toNat)) with
      | some t => some (List.replicate (257 - b.toNat) (q.headD 0) ++ t)
      | none => none
    else if q.length < b.toNat + 1 then none
    else if 20000 < o + (b.toNat + 1) then none else
      match unp f (q.drop (b.toNat + 1)) (o + (b.toNat + 1)) with
      | some t => some (q.take (b.toNat + 1) ++ t)
      | none => none

theorem unp_len : ∀ (f : Nat) (p : List UInt8) (o : Nat) (t : List UInt8), unp f p o = some t → o ≤ 20000 → o + t.length ≤ 20000
  | 0, _, _, _, h, _ => by cases h
  | f + 1, [], o, t, h, ho => by cases h; simpa using ho
  | f + 1, b :: q, o, t, h, ho => by
    simp only [unp] at h
    split at h
    · cases h
    · split at h
      · split at h
        · cases h
        · split at h
          · rename_i t' ht
            have := unp_len f _ _ t' ht (by omega)
            cases h
            simp
            omega
          · cases h
      · split at h
        · cases h
        · split at h
          · cases h
          · split at h
            · rename_i t' ht
              have := unp_len f _ _ t' ht (by omega)
              cases h
              simp
              omega
            · cases h

theorem iter27 (K' : Nat) (x : List UInt8) (a n : Nat) (c : UInt8) (hx : x.length ≤ 40000) (hc : x[a + 1]? = some c) (hn : n ≤ 257) : ∀ (K k : Nat) (zs : List Int), k ≤ 257 - n → 257 - n - k < K → zs.length ≤ 20000 + k →
    iter K (F27_b1 K') (x, (a : Int), (n : Int), (k : Int), zs) = some (x, (a : Int), zs ++ ofB (List.replicate (257 - n - k) c))
  | 0, _, _, _, h, _ => absurd h (Nat.not_lt_zero _)
  | K + 1, k, zs, hk, hK, hz => by
    have ha := (List.getElem?_eq_some_iff.1 hc).1
    have e1 : w64 (257 - (n : Int)) = ((257 - n : Nat) : Int) := by rw [w64_id (by omega) (by omega)]; omega
    have e2 : w64 ((a : Int) + 1) = ((a + 1 : Nat) : Int) := by rw [w64_id (by omega) (by omega)]; omega
    have e3 : w64 ((k : Int) + 1) = ((k + 1 : Nat) : Int) := by rw [w64_id (by omega) (by omega)]; omega
    by_cases h1 : k < 257 - n
    · have i1 : (k : Int) < ((257 - n : Nat) : Int) := by omega
      have g : fitN (zs.length + [((c.toNat : Nat) : Int)].length) 1 = true := fit1 (by simp; omega)
      have st : F27_b1 K' (x, (a : Int), (n : Int), (k : Int), zs) = some (.inl (x, (a : Int), (n : Int), ((k + 1 : Nat) : Int), zs ++ [((c.toNat : Nat) : Int)])) := by
        simp only [F27_b1, branch_ite, e1, if_pos i1, e2, nth_s hc, g, guard_t, e3]
      rw [iter_inl st, iter27 K' x a n c hx hc hn K (k + 1) _ (by omega) (by omega) (by simp; omega)]
      have : 257 - n - k = (257 - n - (k + 1)) + 1 := by omega
      rw [this, List.replicate_succ]
      simp [ofB]
    · have i1 : ¬ (k : Int) < ((257 - n : Nat) : Int) := by omega
      have : 257 - n - k = 0 := by omega
      rw [this]
      exact iter_inr (by simp only [F27_b1, branch_ite, e1, if_neg i1, List.replicate_zero, ofB, List.map_nil, List.append_nil])

theorem repeatL_one' (c : UInt8) : ∀ n, Lib.repeatL [c] n = List.replicate n c
  | 0 => rfl
  | n + 1 => by rw [Lib.repeatL, repeatL_one' c n, List.replicate_succ]; rfl

theorem F55_eq (K : Nat) (c : UInt8) (n : Nat) (h : n ≤ 1000) : F55 K ([c], (n : Int)) = some (List.replicate n c) := by
  have g : 0 ≤ (n : Int) ∧ (n : Int) ≤ 9223372036854775807 ∧ ([c] : List UInt8).length * (n : Int).toNat ≤ 140737488355328 := ⟨by omega, by omega, by simp; omega⟩
  simp only [F55, repF]
  rw [guard_dec g, Int.toNat_natCast, repeatL_one']

theorem bothU (K' : Nat) (x : List UInt8) (hx : x.length ≤ 40000) (hK' : 300 < K') : ∀ (K m a : Nat) (xs : List Int), a ≤ x.length → x.length - a < K → x.length - a < m → xs.length ≤ 20000 →
    iter K (F27_b0 K') (x, (a : Int), xs) = some (match unp m (x.drop a) xs.length with | none => .inl ([], false) | some t => .inr (xs ++ ofB t)) ∧
    iter K (F28_b0 K') (x, (a : Int), xs) = some (match unp m (x.drop a) xs.length with | none => .inl ([], false) | some t => .inr (xs ++ ofB t))
  | 0, _, a, xs, _, h, _, _ => absurd h (Nat.not_lt_zero _)
  | K + 1, 0, a, xs, _, _, h, _ => absurd h (Nat.not_lt_zero _)
  | K + 1, m + 1, a, xs, ha, hK, hm, hl => by
    by_cases h1 : a < x.length
    · have i1 : (a : Int) < (x.length : Int) := by omega
      have hv := List.getElem?_eq_getElem h1
      generalize x[a] = b at hv
      have hb := b.toNat_lt
      have e0 : w64 ((b.toNat : Nat) : Int) = ((b.toNat : Nat) : Int) := w64_id (by omega) (by omega)
      have e1 : w64 ((a : Int) + 1) = ((a + 1 : Nat) : Int) := by rw [w64_id (by omega) (by omega)]; omega
      have e2 : w64 ((a : Int) + 2) = ((a + 2 : Nat) : Int) := by rw [w64_id (by omega) (by omega)]; omega
      have hd : x.drop a = b :: x.drop (a + 1) := by
        rw [List.drop_eq_getElem_cons h1]
        congr 1
        rw [List.getElem?_eq_getElem h1] at hv
        exact Option.some.inj hv
      have hq : (x.drop (a + 1)).length = x.length - (a + 1) := List.length_drop
      rw [hd]
      simp only [unp, hq]
      by_cases h2 : b.toNat = 128 ∨ x.length - (a + 1) = 0
      · rw [if_pos h2]
        refine ⟨iter_inr ?_, iter_inr ?_⟩
        · simp only [F27_b0, branch_ite, if_pos i1, nth_s hv, e0, e1]
          by_cases h3 : ((b.toNat : Nat) : Int) = 128
          · rw [if_pos h3]; rfl
          · have h4 : (x.length : Int) ≤ ((a + 1 : Nat) : Int) := by omega
            rw [if_neg h3]
            simp only [bindO_s, decide_eq_true h4, branch_t, csO_l]
        · simp only [F28_b0, branch_ite, if_pos i1, nth_s hv, e0, e1]
          have h4 : 128 < ((b.toNat : Nat) : Int) → ¬ ((a + 1 : Nat) : Int) < (x.length : Int) := by omega
          by_cases h3 : 128 < ((b.toNat : Nat) : Int)
          · have h5 : ¬ ((b.toNat : Nat) : Int) < 128 := by omega
            rw [if_pos h3]
            simp only [bindO_s, decide_eq_false (h4 h3), branch_f, branch_ite, if_neg h5, csO_l]
          · rw [if_neg h3]
            simp only [bindO_s, branch_f, branch_ite]
            by_cases h5 : ((b.toNat : Nat) : Int) < 128
            · have e6 : w64 (((a + 1 : Nat) : Int) + ((b.toNat : Nat) : Int)) = ((a + 1 + b.toNat : Nat) : Int) := by rw [w64_id (by omega) (by omega)]; omega
              have h6 : ¬ ((a + 1 + b.toNat : Nat) : Int) < (x.length : Int) := by omega
              rw [if_pos h5]
              simp only [bindO_s, e6, decide_eq_false h6, branch_f, csO_l]
            · rw [if_neg h5]
              simp only [bindO_s, branch_f, csO_l]
      · rw [if_neg h2]
        have h3 : ¬ ((b.toNat : Nat) : Int) = 128 := by omega
        have h4 : ¬ (x.length : Int) ≤ ((a + 1 : Nat) : Int) := by omega
        have ha1 : a + 1 < x.length := by omega
        have hc := List.getElem?_eq_getElem ha1
        have hd2 : x.drop (a + 1) = x[a + 1] :: x.drop (a + 2) := List.drop_eq_getElem_cons ha1
        have hh : (x.drop (a + 1)).headD 0 = x[a + 1] := by rw [hd2]; rfl
        generalize x[a + 1] = c at hc hd2 hh
        have h4' : ((a + 1 : Nat) : Int) < (x.length : Int) := by omega
        by_cases h5 : 128 < b.toNat
        · have i5 : 128 < ((b.toNat : Nat) : Int) := by omega
          have s1 := iter27 K' x a b.toNat c hx hc (by omega) K' 0 xs (by omega) (by omega) (by omega)
          replace s1 : iter K' (F27_b1 K') (x, (a : Int), ((b.toNat : Nat) : Int), 0, xs) = some (x, (a : Int), xs ++ ofB (List.replicate (257 - b.toNat) c)) := s1
          have e7 : w64 (257 - ((b.toNat : Nat) : Int)) = ((257 - b.toNat : Nat) : Int) := by rw [w64_id (by omega) (by omega)]; omega
          have e8 : w64 (((a + 1 : Nat) : Int) + 1) = ((a + 2 : Nat) : Int) := by rw [w64_id (by omega) (by omega)]; omega
          have e9 : subL x ((a + 1 : Nat) : Int) ((a + 2 : Nat) : Int) = [c] := by
            simp only [subL, Int.toNat_natCast]
            rw [hd2, show a + 2 - (a + 1) = 1 by omega]
            rfl
          have g2 : (0 : Int) ≤ ((a + 1 : Nat) : Int) ∧ ((a + 1 : Nat) : Int) ≤ ((a + 2 : Nat) : Int) ∧ ((a + 2 : Nat) : Int) ≤ (x.length : Int) := by omega
          have hlen : (xs ++ ofB (List.replicate (257 - b.toNat) c)).length = xs.length + (257 - b.toNat) := by simp [ofB]
          rw [if_pos h5, hh]
          have hdd : (x.drop (a + 1)).drop 1 = x.drop (a + 2) := by rw [hd2]; rfl
          rw [hdd]
          by_cases h6 : 20000 < xs.length + (257 - b.toNat)
          · have i6 : (20000 : Int) < ((xs ++ ofB (List.replicate (257 - b.toNat) c)).length : Int) := by rw [hlen]; omega
            rw [if_pos h6]
            refine ⟨iter_inr ?_, iter_inr ?_⟩
            · simp only [F27_b0, branch_ite, if_pos i1, nth_s hv, e0, e1, if_neg h3, bindO_s, decide_eq_false h4, branch_f, if_pos i5, s1, csO_r, if_pos i6]
            · simp only [F28_b0, branch_ite, if_pos i1, nth_s hv, e0, e1, if_pos i5, bindO_s, decide_eq_true h4', branch_t, e8, guard_dec g2, e9, e7, F55_eq K' c (257 - b.toNat) (by omega), F45_eq K' (List.replicate (257 - b.toNat) c) xs (by simp; omega), csO_r, F56, if_pos i6]
          · have i6 : ¬ (20000 : Int) < ((xs ++ ofB (List.replicate (257 - b.toNat) c)).length : Int) := by rw [hlen]; omega
            rw [if_neg h6]
            have ih := bothU K' x hx hK' K m (a + 2) (xs ++ ofB (List.replicate (257 - b.toNat) c)) (by omega) (by omega) (by omega) (by rw [hlen]; omega)
            have t1 : F27_b0 K' (x, (a : Int), xs) = some (.inl (x, ((a + 2 : Nat) : Int), xs ++ ofB (List.replicate (257 - b.toNat) c))) := by
              simp only [F27_b0, branch_ite, if_pos i1, nth_s hv, e0, e1, if_neg h3, bindO_s, decide_eq_false h4, branch_f, if_pos i5, s1, csO_r, e2, if_neg i6]
            have t2 : F28_b0 K' (x, (a : Int), xs) = some (.inl (x, ((a + 2 : Nat) : Int), xs ++ ofB (List.replicate (257 - b.toNat) c))) := by
              simp only [F28_b0, branch_ite, if_pos i1, nth_s hv, e0, e1, if_pos i5, bindO_s, decide_eq_true h4', branch_t, e8, guard_dec g2, e9, e7, F55_eq K' c (257 - b.toNat) (by omega), F45_eq K' (List.replicate (257 - b.toNat) c) xs (by simp; omega), csO_r, F56, if_neg i6]
            rw [iter_inl t1, iter_inl t2, ih.1, ih.2, hlen]
            cases unp m (x.drop (a + 2)) (xs.length + (257 - b.toNat)) with
            | none => exact ⟨rfl, rfl⟩
            | some t => simp [ofB]
        · have i5 : ¬ 128 < ((b.toNat : Nat) : Int) := by omega
          have i5' : ((b.toNat : Nat) : Int) < 128 := by omega
          have e7 : w64 (((a + 2 : Nat) : Int) + ((b.toNat : Nat) : Int)) = ((a + 2 + b.toNat : Nat) : Int) := by rw [w64_id (by omega) (by omega)]; omega
          have e8 : w64 (((a + 1 : Nat) : Int) + ((b.toNat : Nat) : Int)) = ((a + 1 + b.toNat : Nat) : Int) := by rw [w64_id (by omega) (by omega)]; omega
          have e9 : w64 (((a + 1 + b.toNat : Nat) : Int) + 1) = ((a + 2 + b.toNat : Nat) : Int) := by rw [w64_id (by omega) (by omega)]; omega
          have e10 : w64 (((b.toNat : Nat) : Int) + 1) = ((b.toNat + 1 : Nat) : Int) := by rw [w64_id (by omega) (by omega)]; omega
          have e11 : w64 (((a + 1 : Nat) : Int) + ((b.toNat + 1 : Nat) : Int)) = ((a + 2 + b.toNat : Nat) : Int) := by rw [w64_id (by omega) (by omega)]; omega
          rw [if_neg h5]
          by_cases h6 : x.length - (a + 1) < b.toNat + 1
          · have i6 : (x.length : Int) < ((a + 2 + b.toNat : Nat) : Int) := by omega
            have i6' : ¬ ((a + 1 + b.toNat : Nat) : Int) < (x.length : Int) := by omega
            rw [if_pos h6]
            refine ⟨iter_inr ?_, iter_inr ?_⟩
            · simp only [F27_b0, branch_ite, if_pos i1, nth_s hv, e0, e1, if_neg h3, bindO_s, decide_eq_false h4, branch_f, if_neg i5, e2, e7, if_pos i6, csO_l]
            · simp only [F28_b0, branch_ite, if_pos i1, nth_s hv, e0, e1, if_neg i5, bindO_s, branch_f, if_pos i5', e8, decide_eq_false i6', csO_l]
          · have i6 : ¬ (x.length : Int) < ((a + 2 + b.toNat : Nat) : Int) := by omega
            have i6' : ((a + 1 + b.toNat : Nat) : Int) < (x.length : Int) := by omega
            rw [if_neg h6]
            have e12 : subL x ((a + 1 : Nat) : Int) ((a + 2 + b.toNat : Nat) : Int) = (x.drop (a + 1)).take (b.toNat + 1) := by
              simp only [subL, Int.toNat_natCast]; congr 1; omega
            have hlen : ((x.drop (a + 1)).take (b.toNat + 1)).length = b.toNat + 1 := by rw [List.length_take, hq]; omega
            have hlen2 : (xs ++ ofB ((x.drop (a + 1)).take (b.toNat + 1))).length = xs.length + (b.toNat + 1) := by rw [List.length_append, ofB, List.length_map, hlen]
            have g2 : (0 : Int) ≤ ((a + 1 : Nat) : Int) ∧ ((a + 1 : Nat) : Int) ≤ ((a + 2 + b.toNat : Nat) : Int) ∧ ((a + 2 + b.toNat : Nat) : Int) ≤ (x.length : Int) := by omega
            have g3 : fitN (xs.length + (ofB ((x.drop (a + 1)).take (b.toNat + 1))).length) 1 = true := fit1 (by rw [ofB, List.length_map, hlen]; omega)
            have hdd : (x.drop (a + 1)).drop (b.toNat + 1) = x.drop (a + 2 + b.toNat) := by rw [List.drop_drop]; congr 1; omega
            rw [hdd]
            have g4 := F45_eq K' ((x.drop (a + 1)).take (b.toNat + 1)) xs (by rw [hlen]; omega)
            by_cases h7 : 20000 < xs.length + (b.toNat + 1)
            · have i7 : (20000 : Int) < ((xs ++ ofB ((x.drop (a + 1)).take (b.toNat + 1))).length : Int) := by rw [hlen2]; omega
              rw [if_pos h7]
              refine ⟨iter_inr ?_, iter_inr ?_⟩
              · simp only [F27_b0, branch_ite, if_pos i1, nth_s hv, e0, e1, if_neg h3, bindO_s, decide_eq_false h4, branch_f, if_neg i5, e2, e7, if_neg i6, guard_dec g2, e12, g3, guard_t, csO_r, if_pos i7]
              · simp only [F28_b0, branch_ite, if_pos i1, nth_s hv, e0, e1, if_neg i5, bindO_s, branch_f, if_pos i5', e8, decide_eq_true i6', branch_t, e9, guard_dec g2, e12, g4, csO_r, F56, if_pos i7]
            · have i7 : ¬ (20000 : Int) < ((xs ++ ofB ((x.drop (a + 1)).take (b.toNat + 1))).length : Int) := by rw [hlen2]; omega
              rw [if_neg h7]
              have ih := bothU K' x hx hK' K m (a + 2 + b.toNat) (xs ++ ofB ((x.drop (a + 1)).take (b.toNat + 1))) (by omega) (by omega) (by omega) (by rw [hlen2]; omega)
              have t1 : F27_b0 K' (x, (a : Int), xs) = some (.inl (x, ((a + 2 + b.toNat : Nat) : Int), xs ++ ofB ((x.drop (a + 1)).take (b.toNat + 1)))) := by
                simp only [F27_b0, branch_ite, if_pos i1, nth_s hv, e0, e1, if_neg h3, bindO_s, decide_eq_false h4, branch_f, if_neg i5, e2, e7, if_neg i6, guard_dec g2, e12, g3, guard_t, csO_r, if_neg i7]
              have t2 : F28_b0 K' (x, (a : Int), xs) = some (.inl (x, ((a + 2 + b.toNat : Nat) : Int), xs ++ ofB ((x.drop (a + 1)).take (b.toNat + 1)))) := by
                simp only [F28_b0, branch_ite, if_pos i1, nth_s hv, e0, e1, if_neg i5, bindO_s, branch_f, if_pos i5', e8, decide_eq_true i6', branch_t, e9, guard_dec g2, e12, g4, csO_r, F56, if_neg i7, e10, e11]
              rw [iter_inl t1, iter_inl t2, ih.1, ih.2, hlen2]
              cases unp m (x.drop (a + 2 + b.toNat)) (xs.length + (b.toNat + 1)) with
              | none => exact ⟨rfl, rfl⟩
              | some t => simp [ofB]
    · have i1 : ¬ (a : Int) < (x.length : Int) := by omega
      rw [List.drop_eq_nil_of_le (by omega)]
      refine ⟨iter_inr ?_, iter_inr ?_⟩
      · simp only [F27_b0, branch_ite, if_neg i1, unp, ofB, List.map_nil, List.append_nil]
      · simp only [F28_b0, branch_ite, if_neg i1, unp, ofB, List.map_nil, List.append_nil]

/-- What Unpacked answers. -/
def unR (x : List UInt8) : List UInt8 × Bool :=
  if x.length ≤ 40000 then (match unp (x.length + 1) x 0 with | some t => (t, true) | none => ([], false)) else ([], false)

theorem unR_eq (K : Nat) (x : List UInt8) (hK : 40001 < K) : F27 K x = some (unR x) ∧ F28 K x = some (unR x) := by
  unfold unR
  by_cases h1 : x.length ≤ 40000
  · have i1 : ¬ (40000 : Int) < (x.length : Int) := by omega
    have hb := bothU K x h1 (by omega) K (x.length + 1) 0 [] (Nat.zero_le _) (by omega) (by omega) (by simp)
    obtain ⟨b1, b2⟩ := hb
    replace b1 : iter K (F27_b0 K) (x, 0, []) = _ := b1
    replace b2 : iter K (F28_b0 K) (x, 0, []) = _ := b2
    rw [List.drop_zero] at b1 b2
    simp only [F27, F28, branch_ite, if_neg i1, b1, b2, bindO_s, if_pos h1, List.length_nil, List.nil_append]
    cases hu : unp (x.length + 1) x 0 with
    | none => exact ⟨rfl, rfl⟩
    | some t =>
      have := unp_len _ _ _ _ hu (by omega)
      simp only [csO_r, F47_eq K (ofB t) (by simp [ofB]; omega), bindO_s, toB_of]
      simp
  · have i1 : (40000 : Int) < (x.length : Int) := by omega
    simp only [F27, F28, branch_ite, if_pos i1, if_neg h1]
    simp

theorem unpacked_law (a0 : T9.den) (h : T9.ok a0) : ∃ K, A9 K a0 = some true := by
  refine ⟨50000, ?_⟩
  show F9 50000 (a0 : List UInt8) = some true
  generalize hxx : (a0 : List UInt8) = x
  simp only [F9, branch_ite]
  split
  · rfl
  · obtain ⟨e1, e2⟩ := unR_eq 50000 x (by omega)
    simp only [e1, e2, bindO_s, decide_true, Bool.not_true, branch_f]

end Go.U.Try
