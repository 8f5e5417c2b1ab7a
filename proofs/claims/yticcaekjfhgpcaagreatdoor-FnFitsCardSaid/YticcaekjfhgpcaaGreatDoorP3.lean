/- A part of the proof. No condition. -/
import Derived.Test.YticcaekjfhgpcaaGreatDoorP2
import Derived.Test.YticcaekjfhgpcaaGreatDoorVHe
set_option linter.unusedVariables false
set_option linter.unusedSimpArgs false
set_option linter.unusedSectionVars false
namespace Go.U.Tryz
open Go Go.U Go.U.Exp
set_option maxRecDepth 20000
theorem Res.mono {s : By} {N M : Nat} {x : Option Exp.St} {v : Obj} (h : Res s N x v) (hNM : N ≤ M) : Res s M x v := by
  cases x with
  | none => obtain ⟨m, o, h1, h2, h3⟩ := h; exact ⟨m, o, h1, h2, by omega⟩
  | some t => exact h
theorem res_putI {K : Nat} {s : By} {N : Nat} (hN : 30 ≤ N ∧ N ≤ 2500) {x : Option Exp.St} {v : Obj} (h : Res s N x v) (k i : Int) (w : By) : ∃ v', F118 K (k, i, w, v) = some v' ∧ Res s (N + 1) (x.bind (putN (k, i, w))) v' := by
  cases x with
  | none =>
    obtain ⟨m, o, h1, rfl, h3⟩ := h
    exact ⟨_, F118_eq K k i w s _ true o (by omega), m, _, h1, rfl, by rw [List.length_append, List.length_singleton]; omega⟩
  | some t =>
    obtain ⟨m, h1, h2, rfl, h4⟩ := h
    refine ⟨_, F118_eq K k i w s _ false t.2 (by omega), ?_⟩
    show Res s (N + 1) (putN (k, i, w) t) _
    unfold putN
    by_cases hl : t.2.length < 30
    · rw [if_pos hl, decide_eq_false (show ¬ 30 ≤ t.2.length by omega)]
      exact ⟨m, h1, h2, rfl, by rw [List.length_append, List.length_singleton]; omega⟩
    · rw [if_neg hl, decide_eq_true (show 30 ≤ t.2.length by omega)]
      exact ⟨m, _, h1, rfl, by rw [List.length_append, List.length_singleton]; omega⟩
theorem res_needI {K : Nat} {s : By} (hs : s.length ≤ 1000) {N : Nat} (hN : 30 ≤ N) {x : Option Exp.St} {v : Obj} (h : Res s N x v) : ∃ v', F141 K ([41], v) = some v' ∧ Res s N (x.bind needP) v' := by
  unfold F141
  cases x with
  | none =>
    obtain ⟨m, o, h1, rfl, h3⟩ := h
    rw [F116_bad]
    exact ⟨_, rfl, m, o, h1, rfl, h3⟩
  | some t =>
    obtain ⟨m, h1, h2, rfl, h4⟩ := h
    show ∃ v', _ ∧ Res s N (needP (t.1, t.2)) _
    rw [need41, ← h2]
    by_cases hp : ([41] : By).isPrefixOf (s.drop m) = true
    · rw [F116_t h1 hs (by decide) hp, if_pos hp]
      exact ⟨_, rfl, m + 1, pre_room h1 hp, by rw [List.drop_drop], rfl, h4⟩
    · rw [Bool.not_eq_true] at hp
      rw [F116_f h1 hs (by decide) hp, if_neg (by rw [hp]; decide)]
      exact ⟨_, rfl, m, _, h1, rfl, show t.2.length ≤ N by omega⟩
theorem put_need (x : Option Exp.St) (a : Nd) : (x.bind (putN a)).bind needP = (x.bind needP).bind (putN a) := by
  cases x with
  | none => rfl
  | some t =>
    obtain ⟨r, o⟩ := t
    show (putN a (r, o)).bind needP = (needP (r, o)).bind (putN a)
    unfold putN
    by_cases hl : o.length < 30
    · rw [if_pos hl]
      show needP (r, o ++ [a]) = _
      cases r with
      | nil => rfl
      | cons c r =>
        unfold needP
        dsimp only
        by_cases h : c = 41
        · rw [if_pos h, if_pos h]
          show _ = (if o.length < 30 then _ else _)
          rw [if_pos hl]
        · rw [if_neg h, if_neg h]; rfl
    · rw [if_neg hl]
      cases r with
      | nil => rfl
      | cons c r =>
        unfold needP
        dsimp only
        by_cases h : c = 41
        · rw [if_pos h]
          show _ = (if o.length < 30 then _ else _)
          rw [if_neg hl]; rfl
        · rw [if_neg h]; rfl
theorem tw_app {w t : By} (h : w.all isW = true) : (w ++ 40 :: t).takeWhile isW = w := by
  induction w with
  | nil => rfl
  | cons a w ih =>
    rw [List.all_cons, Bool.and_eq_true] at h
    show (a :: (w ++ 40 :: t)).takeWhile isW = a :: w
    rw [List.takeWhile_cons, h.1, if_pos rfl, ih h.2]
theorem pre_word {w r : By} (hw : w.all isW = true) : (w ++ [40]).isPrefixOf r = (decide (r.takeWhile isW = w) && ([40] : By).isPrefixOf (r.drop (r.takeWhile isW).length)) := by
  rw [Bool.eq_iff_iff, Bool.and_eq_true, decide_eq_true_eq, List.isPrefixOf_iff_prefix, List.isPrefixOf_iff_prefix]
  constructor
  · rintro ⟨t, rfl⟩
    rw [List.append_assoc]
    show (w ++ 40 :: t).takeWhile isW = w ∧ _
    have := tw_app (t := t) hw
    refine ⟨this, ?_⟩
    rw [show [40] ++ t = 40 :: t from rfl, this, List.drop_left]
    exact ⟨t, rfl⟩
  · rintro ⟨h1, t, h2⟩
    refine ⟨t, ?_⟩
    have := List.takeWhile_append_dropWhile (p := isW) (l := r)
    rw [dw_drop, ← h2, h1, ← List.append_assoc] at this
    exact this
section
variable {K : Nat} (hK : 1000 < K) {s : By} (hs : s.length ≤ 990) {N : Nat} (hN : 30 ≤ N ∧ N ≤ 2000)
theorem impl_word (hK : 1000 < K) (hs : s.length ≤ 990) (hN : 30 ≤ N ∧ N ≤ 2000) {W V : (Int × List UInt8 × Int × Bool × List (Int × Int × List UInt8)) → Option Obj} {L : (Int × Int × List UInt8 × Int × Bool × List (Int × Int × List UInt8)) → Option Obj} {MV ML : Ps} (deep : Int) (h0 : 0 ≤ deep) (h30 : deep ≤ 30)
    (hL : ∀ (n : Nat) (o : Os), n ≤ s.length → o.length ≤ 30 → ∃ v, L (0, deep + 1, s, (n : Int), false, o) = some v ∧ Res s N (ML (s.drop n) o) v)
    (n : Nat) (o : Os) (hn : n ≤ s.length) (ho : o.length ≤ 30) (h1 : ([45] : By).isPrefixOf (s.drop n) = false) (h2 : ([126] : By).isPrefixOf (s.drop n) = false) (h3 : ([40] : By).isPrefixOf (s.drop n) = false) :
    ∃ v, F142b W V L K (deep, s, (n : Int), false, o) = some v ∧ Res s (N + 1) (valB rn nm ML MV (s.drop n) o) v := by
  have hs' : s.length ≤ 1000 := by omega
  have ew : w64 (deep + 1) = deep + 1 := w64_id (by omega) (by omega)
  -- a sign ahead
  have signed : ∀ (c : UInt8), let_ c = false → ([c] : By).isPrefixOf (s.drop n) = true → ∃ v,
      (bindO (F162 K ((s, ((n + 1 : Nat) : Int), false, o) : Obj)) fun v3 =>
      guard (decide ((([c] : By).length + v3.1.length) ≤ 9223372036854775807)) <|
      bindO (F163 K ([c] ++ v3.1)) fun v4 =>
      branch v4.2
       (bindO (F118 K (1, v4.1, [], v3.2)) fun v5 =>
       some v5)
       (bindO (F164 K ([c] ++ v3.1)) fun v6 =>
       branch (!v6)
        (some (v3.2.1, v3.2.2.1, true, v3.2.2.2.2))
        (bindO (α := Int × (List UInt8) × Bool × (List UInt8) × Int × Bool × List (Int × Int × List UInt8)) (branch (decide (([c] ++ v3.1) = ([104, 105, 103, 104] : List UInt8)))
           (bindO (F116 K (([40] : List UInt8), v3.2)) fun v7 =>
           some (deep, [c] ++ v3.1, v7))
           (branch (decide (([c] ++ v3.1) = ([108, 111, 119] : List UInt8)))
            (bindO (F116 K (([40] : List UInt8), v3.2)) fun v8 =>
            some (deep, [c] ++ v3.1, v8))
            (branch (decide (([c] ++ v3.1) = ([98, 97, 110, 107] : List UInt8)))
             (bindO (F116 K (([40] : List UInt8), v3.2)) fun v9 =>
             some (deep, [c] ++ v3.1, v9))
             (some (deep, [c] ++ v3.1, false, v3.2))))) fun v10 =>
        branch v10.2.2.1
         (branch (decide (v10.2.1 = ([98, 97, 110, 107] : List UInt8)))
          (bindO (F162 K v10.2.2.2) fun v11 =>
          branch v11.2.2.2.1
           (bindO (F118 K (3, 0, v11.1, v11.2.1, v11.2.2.1, true, v11.2.2.2.2)) fun v12 =>
           bindO (F141 K (([41] : List UInt8), v12)) fun v13 =>
           some v13)
           (bindO (F164 K v11.1) fun v14 =>
           bindO (F118 K (3, 0, v11.1, v11.2.1, v11.2.2.1, !v14, v11.2.2.2.2)) fun v15 =>
           bindO (F141 K (([41] : List UInt8), v15)) fun v16 =>
           some v16))
          (bindO (L (0, w64 (v10.1 + 1), v10.2.2.2)) fun v17 =>
          branch (decide (v10.2.1 = ([108, 111, 119] : List UInt8)))
           (bindO (F118 K (7, 0, [], v17)) fun v18 =>
           bindO (F141 K (([41] : List UInt8), v18)) fun v19 =>
           some v19)
           (bindO (F118 K (6, 0, [], v17)) fun v20 =>
           bindO (F141 K (([41] : List UInt8), v20)) fun v21 =>
           some v21)))
         (bindO (F118 K (2, 0, v10.2.1, v10.2.2.2)) fun v22 =>
         some v22)))) = some v ∧ Res s (N + 1) (wordB rn nm [c] (s.drop (n + 1)) o) v := fun c hlc hc => by
    have hro := pre_room hn hc
    rw [show ([c] : By).length = 1 from rfl] at hro
    have hl := tw_len (s.drop (n + 1))
    rw [List.length_drop] at hl
    rw [F162_eq K s (n + 1) false o hro hs' hK]
    simp only [bindO_s]
    rw [decide_eq_true (by rw [List.length_singleton]; omega), guard_t, F163_eq K _ hK]
    simp only [bindO_s]
    have hres : Res s N (some ((s.drop (n + 1)).dropWhile isW, o)) (s, ((n + 1 + ((s.drop (n + 1)).takeWhile isW).length : Nat) : Int), false, o) :=
      ⟨_, by omega, by rw [dw_drop, List.drop_drop], rfl, ho⟩
    unfold wordB
    cases hr : rn ([c] ++ (s.drop (n + 1)).takeWhile isW) with
    | some i =>
      obtain ⟨v', e1, e2⟩ := res_putI (K := K) ⟨hN.1, by omega⟩ hres 1 i []
      exact ⟨v', by show bindO (F118 K (1, i, [], s, ((n + 1 + ((s.drop (n + 1)).takeWhile isW).length : Nat) : Int), false, o)) _ = _; rw [e1]; rfl, e2⟩
    | none =>
      have hnm : nm ([c] ++ (s.drop (n + 1)).takeWhile isW) = false := by
        show (_ && let_ c && _) = false
        rw [hlc, Bool.and_false, Bool.false_and]
      simp only [okP, branch_f]
      rw [F164_eq K _ hK, hnm, if_neg (by intro h; exact nomatch h.1)]
      exact ⟨_, rfl, _, _, by omega, rfl, by omega⟩
  unfold F142b
  dsimp only
  by_cases h7 : ([36] : By).isPrefixOf (s.drop n) = true
  · have q1 : high_.isPrefixOf (s.drop n) = false := pre_other h7 (by decide)
    have q2 : low_.isPrefixOf (s.drop n) = false := pre_other h7 (by decide)
    have q3 : bank_.isPrefixOf (s.drop n) = false := pre_other h7 (by decide)
    rw [F116_t hn hs' (by decide) h7]
    simp only [bindO_s, branch_t]
    unfold valB
    rw [h1, h2, h3, q1, q2, q3, if_pos h7, List.drop_drop]
    exact signed 36 (by decide) h7
  rw [Bool.not_eq_true] at h7
  rw [F116_f hn hs' (by decide) h7]
  simp only [bindO_s, branch_f]
  by_cases h8 : ([37] : By).isPrefixOf (s.drop n) = true
  · have q1 : high_.isPrefixOf (s.drop n) = false := pre_other h8 (by decide)
    have q2 : low_.isPrefixOf (s.drop n) = false := pre_other h8 (by decide)
    have q3 : bank_.isPrefixOf (s.drop n) = false := pre_other h8 (by decide)
    rw [F116_t hn hs' (by decide) h8]
    simp only [bindO_s, branch_t]
    unfold valB
    rw [h1, h2, h3, q1, q2, q3, h7, if_pos h8, List.drop_drop]
    exact signed 37 (by decide) h8
  rw [Bool.not_eq_true] at h8
  rw [F116_f hn hs' (by decide) h8]
  simp only [bindO_s, branch_f]
  -- no sign
  have hl := tw_len (s.drop n)
  rw [List.length_drop] at hl
  rw [F162_eq K s n false o hn hs' hK]
  simp only [bindO_s]
  rw [decide_eq_true (by rw [List.length_nil]; omega), guard_t, F163_eq K _ hK, List.nil_append]
  simp only [bindO_s]
  have hres : Res s N (some ((s.drop n).dropWhile isW, o)) (s, ((n + ((s.drop n).takeWhile isW).length : Nat) : Int), false, o) :=
    ⟨_, by omega, by rw [dw_drop, List.drop_drop], rfl, ho⟩
  have ph : high_.isPrefixOf (s.drop n) = (decide ((s.drop n).takeWhile isW = [104, 105, 103, 104]) && ([40] : By).isPrefixOf ((s.drop n).drop ((s.drop n).takeWhile isW).length)) := pre_word (w := [104, 105, 103, 104]) (by decide)
  have pl : low_.isPrefixOf (s.drop n) = (decide ((s.drop n).takeWhile isW = [108, 111, 119]) && ([40] : By).isPrefixOf ((s.drop n).drop ((s.drop n).takeWhile isW).length)) := pre_word (w := [108, 111, 119]) (by decide)
  have pb : bank_.isPrefixOf (s.drop n) = (decide ((s.drop n).takeWhile isW = [98, 97, 110, 107]) && ([40] : By).isPrefixOf ((s.drop n).drop ((s.drop n).takeWhile isW).length)) := pre_word (w := [98, 97, 110, 107]) (by decide)
  unfold valB
  rw [h1, h2, h3, h7, h8]
  simp only [Bool.false_eq_true, if_false]
  unfold wordB
  rw [List.nil_append]
  have hq : n + ((s.drop n).takeWhile isW).length ≤ s.length := by omega
  rw [List.drop_drop] at ph pl pb
  by_cases w1 : (s.drop n).takeWhile isW = [104, 105, 103, 104]
  · rw [w1] at ph hres hq ⊢
    rw [show (n + List.length ([104, 105, 103, 104] : By)) = n + 4 from rfl] at ph hres hq ⊢
    rw [decide_eq_true rfl, Bool.true_and] at ph
    rw [show rn [104, 105, 103, 104] = none from rfl]
    dsimp only [okP]
    rw [branch_f, F164_eq K _ hK, show nm [104, 105, 103, 104] = true from rfl, bindO_s, Bool.not_true, branch_f]
    rw [show decide (([104, 105, 103, 104] : By) = [104, 105, 103, 104]) = true from rfl, branch_t]
    cases hp : ([40] : By).isPrefixOf (s.drop (n + 4)) with
    | true =>
      rw [hp] at ph
      rw [if_pos ph, F116_t hq hs' (by decide) hp]
      obtain ⟨v, e1, e2⟩ := hL (n + 4 + 1) o (pre_room hq hp) ho
      obtain ⟨v', p1, p2⟩ := res_putI (K := K) ⟨hN.1, by omega⟩ e2 6 0 []
      obtain ⟨v2, n1, n2⟩ := res_needI (K := K) hs' (by omega) p2
      simp only [bindO_s, branch_t]
      rw [show decide (([104, 105, 103, 104] : By) = [98, 97, 110, 107]) = false from rfl, branch_f, ew, show (([40] : By).length) = 1 from rfl, e1]
      simp only [bindO_s]
      rw [show decide (([104, 105, 103, 104] : By) = [108, 111, 119]) = false from rfl, branch_f, p1]
      simp only [bindO_s]
      rw [n1]
      exact ⟨_, rfl, by rw [List.drop_drop, ← put_need]; exact n2⟩
    | false =>
      rw [hp] at ph
      rw [w1] at pl pb
      rw [show low_.isPrefixOf (s.drop n) = false from pl, show bank_.isPrefixOf (s.drop n) = false from pb, ph, F116_f hq hs' (by decide) hp]
      obtain ⟨v', p1, p2⟩ := res_putI (K := K) ⟨hN.1, by omega⟩ hres 2 0 [104, 105, 103, 104]
      simp only [bindO_s, branch_f]
      rw [p1]
      exact ⟨_, rfl, p2⟩
  rw [decide_eq_false w1, Bool.false_and] at ph
  rw [ph, if_neg Bool.false_ne_true]
  by_cases w2 : (s.drop n).takeWhile isW = [108, 111, 119]
  · rw [w2] at pl hres hq ⊢
    rw [show (n + List.length ([108, 111, 119] : By)) = n + 3 from rfl] at pl hres hq ⊢
    rw [decide_eq_true rfl, Bool.true_and] at pl
    rw [show rn [108, 111, 119] = none from rfl]
    dsimp only [okP]
    rw [branch_f, F164_eq K _ hK, show nm [108, 111, 119] = true from rfl, bindO_s, Bool.not_true, branch_f]
    rw [show decide (([108, 111, 119] : By) = [104, 105, 103, 104]) = false from rfl, branch_f, show decide (([108, 111, 119] : By) = [108, 111, 119]) = true from rfl, branch_t]
    cases hp : ([40] : By).isPrefixOf (s.drop (n + 3)) with
    | true =>
      rw [hp] at pl
      rw [if_pos pl, F116_t hq hs' (by decide) hp]
      obtain ⟨v, e1, e2⟩ := hL (n + 3 + 1) o (pre_room hq hp) ho
      obtain ⟨v', p1, p2⟩ := res_putI (K := K) ⟨hN.1, by omega⟩ e2 7 0 []
      obtain ⟨v2, n1, n2⟩ := res_needI (K := K) hs' (by omega) p2
      simp only [bindO_s, branch_t]
      rw [show decide (([108, 111, 119] : By) = [98, 97, 110, 107]) = false from rfl, branch_f, ew, show (([40] : By).length) = 1 from rfl, e1]
      simp only [bindO_s, branch_t]
      rw [p1]
      simp only [bindO_s]
      rw [n1]
      exact ⟨_, rfl, by rw [List.drop_drop, ← put_need]; exact n2⟩
    | false =>
      rw [hp] at pl
      rw [w2] at pb
      rw [show bank_.isPrefixOf (s.drop n) = false from pb, pl, F116_f hq hs' (by decide) hp]
      obtain ⟨v', p1, p2⟩ := res_putI (K := K) ⟨hN.1, by omega⟩ hres 2 0 [108, 111, 119]
      simp only [bindO_s, branch_f]
      rw [p1]
      exact ⟨_, rfl, p2⟩
  rw [decide_eq_false w2, Bool.false_and] at pl
  rw [pl, if_neg Bool.false_ne_true]
  by_cases w3 : (s.drop n).takeWhile isW = [98, 97, 110, 107]
  · rw [w3] at pb hres hq ⊢
    rw [show (n + List.length ([98, 97, 110, 107] : By)) = n + 4 from rfl] at pb hres hq ⊢
    rw [decide_eq_true rfl, Bool.true_and] at pb
    rw [show rn [98, 97, 110, 107] = none from rfl]
    dsimp only [okP]
    rw [branch_f, F164_eq K _ hK, show nm [98, 97, 110, 107] = true from rfl, bindO_s, Bool.not_true, branch_f]
    rw [show decide (([98, 97, 110, 107] : By) = [104, 105, 103, 104]) = false from rfl, branch_f, show decide (([98, 97, 110, 107] : By) = [108, 111, 119]) = false from rfl, branch_f, show decide (([98, 97, 110, 107] : By) = [98, 97, 110, 107]) = true from rfl, branch_t]
    cases hp : ([40] : By).isPrefixOf (s.drop (n + 4)) with
    | true =>
      have hro := pre_room hq hp
      rw [show (([40] : By).length) = 1 from rfl] at hro
      have hl5 := tw_len (s.drop (n + 4 + 1))
      rw [List.length_drop] at hl5
      rw [hp] at pb
      rw [if_pos pb, F116_t hq hs' (by decide) hp]
      simp only [bindO_s, branch_t]
      rw [show (([40] : By).length) = 1 from rfl, F162_eq K s (n + 4 + 1) false o hro hs' hK]
      simp only [bindO_s, branch_f]
      rw [F164_eq K _ hK, List.drop_drop, show n + 5 = n + 4 + 1 from rfl]
      simp only [bindO_s]
      cases hm : nm ((s.drop (n + 4 + 1)).takeWhile isW) with
      | false =>
        have hb : Res s N none (s, ((n + 4 + 1 + ((s.drop (n + 4 + 1)).takeWhile isW).length : Nat) : Int), true, o) := ⟨_, o, by omega, rfl, by omega⟩
        obtain ⟨v', p1, p2⟩ := res_putI (K := K) ⟨hN.1, by omega⟩ hb 3 0 ((s.drop (n + 4 + 1)).takeWhile isW)
        obtain ⟨v2, n1, n2⟩ := res_needI (K := K) hs' (by omega) p2
        rw [Bool.not_false, p1]
        simp only [bindO_s]
        rw [n1]
        exact ⟨_, rfl, by rw [if_neg (by decide)]; exact n2⟩
      | true =>
        rw [Bool.not_true, if_pos rfl]
        have hb : Res s N (some ((s.drop (n + 4 + 1)).dropWhile isW, o)) (s, ((n + 4 + 1 + ((s.drop (n + 4 + 1)).takeWhile isW).length : Nat) : Int), false, o) :=
          ⟨_, by omega, by rw [dw_drop, List.drop_drop], rfl, ho⟩
        obtain ⟨v', p1, p2⟩ := res_putI (K := K) ⟨hN.1, by omega⟩ hb 3 0 ((s.drop (n + 4 + 1)).takeWhile isW)
        obtain ⟨v2, n1, n2⟩ := res_needI (K := K) hs' (by omega) p2
        rw [p1]
        simp only [bindO_s]
        rw [n1]
        rw [put_need] at n2
        exact ⟨_, rfl, n2⟩
    | false =>
      rw [hp] at pb
      rw [pb, F116_f hq hs' (by decide) hp]
      obtain ⟨v', p1, p2⟩ := res_putI (K := K) ⟨hN.1, by omega⟩ hres 2 0 [98, 97, 110, 107]
      simp only [bindO_s, branch_f]
      rw [p1]
      exact ⟨_, rfl, p2⟩
  rw [decide_eq_false w3, Bool.false_and] at pb
  rw [pb, if_neg Bool.false_ne_true]
  cases hr : rn ((s.drop n).takeWhile isW) with
  | some i =>
    obtain ⟨v', e1, e2⟩ := res_putI (K := K) ⟨hN.1, by omega⟩ hres 1 i []
    exact ⟨v', by show bindO (F118 K (1, i, [], s, ((n + ((s.drop n).takeWhile isW).length : Nat) : Int), false, o)) _ = _; rw [e1]; rfl, e2⟩
  | none =>
    dsimp only [okP]
    rw [branch_f, F164_eq K _ hK, bindO_s]
    cases hm : nm ((s.drop n).takeWhile isW) with
    | false =>
      rw [if_neg (by intro h; exact nomatch h.2)]
      exact ⟨_, rfl, _, _, hq, rfl, by omega⟩
    | true =>
      rw [if_pos ⟨rfl, rfl⟩, Bool.not_true, branch_f, decide_eq_false w1, decide_eq_false w2, decide_eq_false w3]
      simp only [bindO_s, branch_f]
      obtain ⟨v', p1, p2⟩ := res_putI (K := K) ⟨hN.1, by omega⟩ hres 2 0 ((s.drop n).takeWhile isW)
      rw [p1]
      exact ⟨_, rfl, p2⟩
end
end Go.U.Tryz
namespace Go.U.Tryz
open Go Go.U Go.U.Exp
set_option maxRecDepth 20000
def lev : Nat → List Int
  | 0 => [15] | 1 => [14] | 2 => [13] | 3 => [16, 17] | 4 => [8, 9] | 5 => [10, 11, 12] | _ => []
def pw (r : By) (op : Int) : Bool := (wd (op - 8).toNat).isPrefixOf r
def opL (ops : List Int) (r : By) : Int := match ops with
  | [] => 0
  | op :: l => if pw r op = true then op else opL l r
def hc : Nat → UInt8
  | 0 => 43 | 1 => 45 | 2 => 42 | 3 => 47 | 4 => 37 | 5 => 38 | 6 => 94 | 7 => 124 | 8 => 60 | _ => 62
theorem wd_hc : ∀ (j : Nat), ∃ t, wd j = hc j :: t
  | 0 | 1 | 2 | 3 | 4 | 5 | 6 | 7 | 8 => ⟨_, rfl⟩
  | _ + 9 => ⟨_, rfl⟩
theorem pw_head {j : Nat} {r : By} (h : (wd j).isPrefixOf r = true) : r.head? = some (hc j) := by
  obtain ⟨t, ht⟩ := wd_hc j
  rw [ht] at h
  obtain ⟨u, rfl⟩ := List.isPrefixOf_iff_prefix.mp h
  rfl
theorem hc_inj : ∀ i j, i < 10 → j < 10 → hc i = hc j → i = j := by
  intro i j hi hj h
  have : ((List.range 10).all fun i => (List.range 10).all fun j => decide (hc i = hc j → i = j)) = true := by decide
  have h1 := List.all_eq_true.1 this i (List.mem_range.2 hi)
  have h2 := List.all_eq_true.1 h1 j (List.mem_range.2 hj)
  exact of_decide_eq_true h2 h
theorem opJ_some : ∀ (j : Nat) (r : By), j ≤ 10 → (∃ i, i < j ∧ (wd i).isPrefixOf r = true ∧ opJ j r = 8 + (i : Int)) ∨ ((∀ i, i < j → (wd i).isPrefixOf r = false) ∧ opJ j r = 0)
  | 0, r, _ => .inr ⟨fun i h => absurd h (Nat.not_lt_zero _), rfl⟩
  | j + 1, r, hj => by
    by_cases hp : (wd j).isPrefixOf r = true
    · refine .inl ⟨j, by omega, hp, ?_⟩
      simp only [opJ, if_pos hp]
    · rcases opJ_some j r (by omega) with ⟨i, h1, h2, h3⟩ | ⟨h1, h2⟩
      · refine .inl ⟨i, by omega, h2, ?_⟩
        simp only [opJ, if_neg hp]; exact h3
      · refine .inr ⟨fun i hi => ?_, ?_⟩
        · rcases Nat.lt_or_ge i j with h | h
          · exact h1 i h
          · rw [show i = j by omega]; rw [Bool.not_eq_true] at hp; exact hp
        · simp only [opJ, if_neg hp]; exact h2
theorem opL_none {r : By} (h : ∀ i, i < 10 → (wd i).isPrefixOf r = false) : ∀ ops : List Int, (∀ op ∈ ops, 8 ≤ op ∧ op ≤ 17) → opL ops r = 0
  | [], _ => rfl
  | op :: l, ho => by
    have := ho op (List.mem_cons_self ..)
    have hp : pw r op = false := h _ (by omega)
    unfold opL
    rw [if_neg (by rw [hp]; decide)]
    exact opL_none h l fun x hx => ho x (List.mem_cons_of_mem _ hx)
theorem opL_one {r : By} {i : Nat} (hi : i < 10) (hp : (wd i).isPrefixOf r = true) : ∀ ops : List Int, (∀ op ∈ ops, 8 ≤ op ∧ op ≤ 17) → opL ops r = if (8 + (i : Int)) ∈ ops then 8 + (i : Int) else 0
  | [], _ => rfl
  | op :: l, ho => by
    have h1 := ho op (List.mem_cons_self ..)
    unfold opL
    by_cases he : op = 8 + (i : Int)
    · have : pw r op = true := by
        unfold pw
        rw [show (op - 8).toNat = i by omega]; exact hp
      rw [if_pos this, if_pos (by rw [he]; exact List.mem_cons_self ..), he]
    · have : ¬ pw r op = true := fun h => by
        have := hc_inj _ i (by omega) hi (Option.some.inj ((pw_head h).symm.trans (pw_head hp)))
        omega
      rw [if_neg this, opL_one hi hp l fun x hx => ho x (List.mem_cons_of_mem _ hx)]
      by_cases hm : (8 + (i : Int)) ∈ l
      · rw [if_pos hm, if_pos (List.mem_cons_of_mem _ hm)]
      · rw [if_neg hm, if_neg (by rw [List.mem_cons]; rintro (h | h); exact he h.symm; exact hm h)]
theorem lev_ok (k : Nat) (hk : k < 6) : ∀ op ∈ lev k, 8 ≤ op ∧ op ≤ 17 := by
  match k, hk with
  | 0, _ | 1, _ | 2, _ | 3, _ | 4, _ | 5, _ => decide
theorem lev_in (k i l : Nat) (hk : k < 6) (hi : i < 10) (h : F106 0 (8 + (i : Int)) = some (l : Int)) : (8 + (i : Int)) ∈ lev k ↔ l = k + 1 := by
  have : ((List.range 6).all fun k => (List.range 10).all fun i => (List.range 10).all fun l => decide (F106 0 (8 + (i : Int)) = some (l : Int) → ((8 + (i : Int)) ∈ lev k ↔ l = k + 1))) = true := by kernel_rfl
  have h1 := List.all_eq_true.1 this k (List.mem_range.2 hk)
  have h2 := List.all_eq_true.1 h1 i (List.mem_range.2 hi)
  have hl : l < 10 := by
    have : ((List.range 10).all fun i => match F106 0 (8 + (i : Int)) with | some x => decide (x < 10) | none => true) = true := by kernel_rfl
    have := List.all_eq_true.1 this i (List.mem_range.2 hi)
    rw [h] at this
    have : (l : Int) < 10 := of_decide_eq_true this
    omega
  have h3 := List.all_eq_true.1 h2 l (List.mem_range.2 hl)
  exact of_decide_eq_true h3 h
theorem opL_at (k : Nat) (hk : k < 6) (r : By) : match opAt r with
    | none => opL (lev k) r = 0
    | some (kd, l, r1) => opL (lev k) r = if l = k + 1 then kd else 0 := by
  have h := opJ_at r
  have hj := opJ_some 10 r (Nat.le_refl _)
  cases ha : opAt r with
  | none =>
    rw [ha] at h
    rcases hj with ⟨i, h1, h2, h3⟩ | ⟨h1, h2⟩
    · have : opJ 10 r = 0 := h
      omega
    · exact opL_none h1 _ (lev_ok k hk)
  | some x =>
    obtain ⟨kd, l, r1⟩ := x
    rw [ha] at h
    obtain ⟨o1, o2, _⟩ := h
    obtain ⟨_, _, _, k1, _⟩ := opAt_some ha
    rcases hj with ⟨i, h1, h2, h3⟩ | ⟨h1, h2⟩
    · have e : kd = 8 + (i : Int) := o1.symm.trans h3
      subst e
      show opL (lev k) r = if l = k + 1 then _ else 0
      rw [opL_one h1 h2 _ (lev_ok k hk)]
      have := lev_in k i l hk h1 (o2 0)
      by_cases hl : l = k + 1
      · rw [if_pos hl, if_pos (this.2 hl)]
      · rw [if_neg hl, if_neg fun h => hl (this.1 h)]
    · omega
theorem F117_eq (K : Nat) : F117 K () = some [[110, 101, 103], [110, 111, 116], [104, 105, 103, 104], [108, 111, 119], [43], [45], [42], [47], [37], [38], [94], [124], [60, 60], [62, 62]] := by kernel_rfl
section
variable {K : Nat} (hK : 1000 < K) {s : By} (hs : s.length ≤ 990)
theorem ops_loop (hK : 1000 < K) (hs : s.length ≤ 990) (W V : (Int × List UInt8 × Int × Bool × List (Int × Int × List UInt8)) → Option Obj) (L : (Int × Int × List UInt8 × Int × Bool × List (Int × Int × List UInt8)) → Option Obj) (k deep : Int) (ops : List Int) (hops : ∀ op ∈ ops, 8 ≤ op ∧ op ≤ 17) (hlen : ops.length ≤ 5) (m : Nat) (o : Os) (hm : m ≤ s.length) :
    ∀ (N i : Nat), i ≤ ops.length → ops.length - i < N →
    iter N (F86b_b1 W V L K) (k, deep, 0, ops, (ops.length : Int), (i : Int), s, (m : Int), false, o) =
      some (k, deep, opL (ops.drop i) (s.drop m), s, (if opL (ops.drop i) (s.drop m) = 0 then (m : Int) else ((m + (wd (opL (ops.drop i) (s.drop m) - 8).toNat).length : Nat) : Int)), false, o)
  | 0, i, _, h => absurd h (Nat.not_lt_zero _)
  | N + 1, i, hi, hN => by
    have hs' : s.length ≤ 1000 := by omega
    rcases Nat.lt_or_ge i ops.length with hlt | hge
    · have hv := List.getElem?_eq_getElem hlt
      have hop := hops _ (List.getElem_mem hlt)
      rw [List.drop_eq_getElem_cons hlt]
      generalize he : ops[i] = op at hv hop ⊢
      have e3 : w64 ((i : Int) + 1) = ((i + 1 : Nat) : Int) := by rw [w64_id (by omega) (by omega)]; omega
      have hw : ([[110, 101, 103], [110, 111, 116], [104, 105, 103, 104], [108, 111, 119], [43], [45], [42], [47], [37], [38], [94], [124], [60, 60], [62, 62]] : List By)[(op - 4).toNat]? = some (wd (op - 8).toNat) := by
        have := wds_at (op - 8).toNat (by omega)
        rw [show 8 + (op - 8).toNat = (op - 4).toNat + 4 by omega] at this
        exact this
      have hl2 := wd_len (op - 8).toNat
      have st : F86b_b1 W V L K (k, deep, 0, ops, (ops.length : Int), (i : Int), s, (m : Int), false, o) =
          bindO (F116 K (wd (op - 8).toNat, s, (m : Int), false, o)) fun v3 => branch v3.1 (some (.inr (k, deep, op, v3.2))) (some (.inl (k, deep, 0, ops, (ops.length : Int), ((i + 1 : Nat) : Int), v3.2))) := by
        unfold F86b_b1
        dsimp only
        rw [decide_eq_true (show (i : Int) < (ops.length : Int) by omega), branch_t, nth_s hv, F117_eq, bindO_s, w64_id (n := op - 4) (by omega) (by omega), nth_z (by omega) hw, e3]
      by_cases hp : pw (s.drop m) op = true
      · have hp' : (wd (op - 8).toNat).isPrefixOf (s.drop m) = true := hp
        rw [F116_t hm hs' (by omega) hp', bindO_s, branch_t] at st
        have e : opL (op :: ops.drop (i + 1)) (s.drop m) = op := by
          conv => lhs; unfold opL
          rw [if_pos hp]
        rw [e, if_neg (by omega)]
        simp only [iter, st]
      · have hp' : (wd (op - 8).toNat).isPrefixOf (s.drop m) = false := by rw [Bool.not_eq_true] at hp; exact hp
        rw [F116_f hm hs' (by omega) hp', bindO_s, branch_f] at st
        have e : opL (op :: ops.drop (i + 1)) (s.drop m) = opL (ops.drop (i + 1)) (s.drop m) := by
          conv => lhs; unfold opL
          rw [if_neg hp]
        rw [e]
        simp only [iter, st]
        exact ops_loop hK hs W V L k deep ops hops hlen m o hm N (i + 1) hlt (by omega)
    · have : i = ops.length := by omega
      subst this
      rw [List.drop_length]
      have : F86b_b1 W V L K (k, deep, 0, ops, (ops.length : Int), (ops.length : Int), s, (m : Int), false, o) = some (.inr (k, deep, 0, s, (m : Int), false, o)) := by
        unfold F86b_b1
        dsimp only
        rw [decide_eq_false (by omega)]; rfl
      simp only [iter, this]
      rfl
variable {N : Nat} (hN : 30 ≤ N ∧ N ≤ 2000)
theorem impl_value (hK : 1000 < K) (hs : s.length ≤ 990) (hN : 30 ≤ N ∧ N ≤ 2000) {W V : (Int × List UInt8 × Int × Bool × List (Int × Int × List UInt8)) → Option Obj} {L : (Int × Int × List UInt8 × Int × Bool × List (Int × Int × List UInt8)) → Option Obj} {MV ML : Ps} (deep : Int) (h0 : 0 ≤ deep) (h30 : deep ≤ 30)
    (hV : ∀ (n : Nat) (o : Os), n ≤ s.length → o.length ≤ 30 → ∃ v, V (deep + 1, s, (n : Int), false, o) = some v ∧ Res s N (MV (s.drop n) o) v)
    (hL : ∀ (n : Nat) (o : Os), n ≤ s.length → o.length ≤ 30 → ∃ v, L (0, deep + 1, s, (n : Int), false, o) = some v ∧ Res s N (ML (s.drop n) o) v)
    (hW : ∀ (n : Nat) (o : Os), n ≤ s.length → o.length ≤ 30 → ([45] : By).isPrefixOf (s.drop n) = false → ([126] : By).isPrefixOf (s.drop n) = false → ([40] : By).isPrefixOf (s.drop n) = false →
      ∃ v, W (deep, s, (n : Int), false, o) = some v ∧ Res s (N + 1) (valB rn nm ML MV (s.drop n) o) v)
    (n : Nat) (o : Os) (hn : n ≤ s.length) (ho : o.length ≤ 30) : ∃ v, F115b W V L K (deep, s, (n : Int), false, o) = some v ∧ Res s (N + 1) (valB rn nm ML MV (s.drop n) o) v := by
  have hs' : s.length ≤ 1000 := by omega
  have ew : w64 (deep + 1) = deep + 1 := w64_id (by omega) (by omega)
  unfold F115b
  dsimp only
  rw [branch_f, bindO_s, decide_eq_false (show ¬ 30 < deep by omega)]
  dsimp only
  rw [branch_f, bindO_s, csO_r, ew]
  by_cases h1 : ([45] : By).isPrefixOf (s.drop n) = true
  · obtain ⟨v, e1, e2⟩ := hV (n + 1) o (pre_room hn h1) ho
    obtain ⟨v', p1, p2⟩ := res_putI (K := K) ⟨hN.1, by omega⟩ e2 4 0 []
    rw [F116_t hn hs' (by decide) h1]
    simp only [bindO_s, branch_t, List.length_singleton, e1, p1]
    exact ⟨v', rfl, by unfold valB; rw [if_pos h1, List.drop_drop]; exact p2⟩
  rw [Bool.not_eq_true] at h1
  rw [F116_f hn hs' (by decide) h1]
  simp only [bindO_s, branch_f]
  by_cases h2 : ([126] : By).isPrefixOf (s.drop n) = true
  · obtain ⟨v, e1, e2⟩ := hV (n + 1) o (pre_room hn h2) ho
    obtain ⟨v', p1, p2⟩ := res_putI (K := K) ⟨hN.1, by omega⟩ e2 5 0 []
    rw [F116_t hn hs' (by decide) h2]
    simp only [bindO_s, branch_t, List.length_singleton, e1, p1]
    exact ⟨v', rfl, by unfold valB; rw [h1, if_neg Bool.false_ne_true, if_pos h2, List.drop_drop]; exact p2⟩
  rw [Bool.not_eq_true] at h2
  rw [F116_f hn hs' (by decide) h2]
  simp only [bindO_s, branch_f]
  by_cases h3 : ([40] : By).isPrefixOf (s.drop n) = true
  · obtain ⟨v, e1, e2⟩ := hL (n + 1) o (pre_room hn h3) ho
    obtain ⟨v', p1, p2⟩ := res_needI (K := K) hs' (by omega) e2
    rw [F116_t hn hs' (by decide) h3]
    simp only [bindO_s, branch_t, List.length_singleton, e1, p1]
    exact ⟨v', rfl, by unfold valB; rw [h1, if_neg Bool.false_ne_true, h2, if_neg Bool.false_ne_true, if_pos h3, List.drop_drop]; exact p2.mono (by omega)⟩
  rw [Bool.not_eq_true] at h3
  rw [F116_f hn hs' (by decide) h3]
  simp only [bindO_s, branch_f]
  obtain ⟨v, e1, e2⟩ := hW n o hn ho h1 h2 h3
  rw [e1]
  exact ⟨v, rfl, e2⟩
theorem impl_loop (hK : 1000 < K) (hs : s.length ≤ 990) (hN : 30 ≤ N ∧ N ≤ 2000) {W V : (Int × List UInt8 × Int × Bool × List (Int × Int × List UInt8)) → Option Obj} {L : (Int × Int × List UInt8 × Int × Bool × List (Int × Int × List UInt8)) → Option Obj} (d k : Nat) (hk : k < 6) (deep : Int) (h0 : 0 ≤ deep) (h30 : deep ≤ 30)
    (hL : ∀ (n : Nat) (o : Os), n ≤ s.length → o.length ≤ 30 → ∃ v, L (((k + 1 : Nat) : Int), deep + 1, s, (n : Int), false, o) = some v ∧ Res s N (S rn nm d (k + 2) (s.drop n) o) v) :
    ∀ (j M N' m : Nat) (o : Os), m ≤ s.length → s.length - m ≤ j → o.length ≤ 30 → j + 1 < N' → j < M →
    ∃ z, iter N' (F86b_b0 W V L K) ((k : Int), deep, s, (m : Int), false, o) = some z ∧ Res s (N + 1) (loop1 (S rn nm d (k + 2)) (k + 1) M (s.drop m) o) (un z) := by
  have hs' : s.length ≤ 1000 := by omega
  have ew : w64 (deep + 1) = deep + 1 := w64_id (by omega) (by omega)
  have hlv : ([[15], [14], [13], [16, 17], [8, 9], [10, 11, 12]] : List (List Int))[((k : Nat) : Int).toNat]? = some (lev k) := by
    rw [Int.toNat_natCast]
    match k, hk with
    | 0, _ | 1, _ | 2, _ | 3, _ | 4, _ | 5, _ => rfl
  have hll : (lev k).length ≤ 5 := by
    match k, hk with
    | 0, _ | 1, _ | 2, _ | 3, _ | 4, _ | 5, _ => decide
  have hst : ∀ (m : Nat) (o : Os), m ≤ s.length → F86b_b0 W V L K ((k : Int), deep, s, (m : Int), false, o) =
      branch (decide (opL (lev k) (s.drop m) = 0)) (some (.inr (.inl (s, (if opL (lev k) (s.drop m) = 0 then (m : Int) else ((m + (wd (opL (lev k) (s.drop m) - 8).toNat).length : Nat) : Int)), false, o))))
        (bindO (L (((k + 1 : Nat) : Int), deep + 1, s, (if opL (lev k) (s.drop m) = 0 then (m : Int) else ((m + (wd (opL (lev k) (s.drop m) - 8).toNat).length : Nat) : Int)), false, o)) fun v3 =>
          bindO (F118 K (opL (lev k) (s.drop m), 0, [], v3)) fun v4 => some (.inl ((k : Int), deep, v4))) := fun m o hm => by
    have hl := ops_loop hK hs W V L (k : Int) deep (lev k) (lev_ok k hk) hll m o hm K 0 (Nat.zero_le _) (by omega)
    rw [show ((0 : Nat) : Int) = 0 from rfl, List.drop_zero] at hl
    unfold F86b_b0
    dsimp only
    rw [Bool.not_false, branch_t, show F114 K () = some [[15], [14], [13], [16, 17], [8, 9], [10, 11, 12]] from rfl, bindO_s, nth_z (by omega) hlv, hl, bindO_s, ew, w64_id (n := (k : Int) + 1) (by omega) (by omega),
      show ((k : Int) + 1) = ((k + 1 : Nat) : Int) by omega]
  intro j
  induction j with
  | zero =>
    intro M N' m o hm hj ho hN' hM
    obtain ⟨M, rfl⟩ : ∃ x, M = x + 1 := ⟨M - 1, by omega⟩
    obtain ⟨N', rfl⟩ : ∃ x, N' = x + 1 := ⟨N' - 1, by omega⟩
    have hd : s.drop m = [] := List.drop_eq_nil_of_le (by omega)
    have h := hst m o hm
    have ha := opL_at k hk (s.drop m)
    rw [hd] at ha h ⊢
    rw [show opL (lev k) [] = 0 from ha, decide_eq_true rfl, branch_t, if_pos rfl] at h
    refine ⟨.inl (s, (m : Int), false, o), by simp only [iter, h], ?_⟩
    exact ⟨m, hm, hd, rfl, ho⟩
  | succ j ih =>
    intro M N' m o hm hj ho hN' hM
    obtain ⟨M, rfl⟩ : ∃ x, M = x + 1 := ⟨M - 1, by omega⟩
    obtain ⟨N', rfl⟩ : ∃ x, N' = x + 1 := ⟨N' - 1, by omega⟩
    have h := hst m o hm
    have hat := opL_at k hk (s.drop m)
    have stop : opL (lev k) (s.drop m) = 0 → iter (N' + 1) (F86b_b0 W V L K) ((k : Int), deep, s, (m : Int), false, o) = some (.inl (s, (m : Int), false, o)) := fun e => by
      rw [e, decide_eq_true rfl, branch_t, if_pos rfl] at h
      simp only [iter, h]
    conv => arg 1; ext z; rhs; unfold loop1
    cases ha : opAt (s.drop m) with
    | none =>
      rw [ha] at hat
      exact ⟨_, stop hat, m, hm, rfl, rfl, ho⟩
    | some x =>
      obtain ⟨kd, l, r1⟩ := x
      rw [ha] at hat
      have hat : opL (lev k) (s.drop m) = if l = k + 1 then kd else 0 := hat
      by_cases hl : l = k + 1
      · rw [if_pos hl] at hat
        obtain ⟨⟨p, pne, hp⟩, lv1, lv2, k1, k2⟩ := opAt_some ha
        have hop := opJ_at (s.drop m)
        rw [ha] at hop
        obtain ⟨o1, o2, w, w1, w2, w3, w4⟩ := hop
        have hw : wd (kd - 8).toNat = w := by
          have := wds_at (kd - 8).toNat (by omega)
          rw [show 8 + (kd - 8).toNat = kd.toNat by omega, w1] at this
          exact (Option.some.inj this).symm
        have hwl : m + w.length ≤ s.length := by rw [List.length_drop] at w3; omega
        rw [hat, decide_eq_false (show ¬ kd = 0 by omega), branch_f, if_neg (by omega), hw] at h
        obtain ⟨v, v1, v2⟩ := hL (m + w.length) o hwl ho
        obtain ⟨v', p1, p2⟩ := res_putI (K := K) ⟨hN.1, by omega⟩ v2 kd 0 []
        rw [v1, bindO_s, p1, bindO_s] at h
        dsimp only
        rw [if_pos hl, w4, List.drop_drop]
        cases hx : (S rn nm d (k + 2) (s.drop (m + w.length)) o).bind (putN (kd, 0, [])) with
        | none =>
          rw [hx] at p2
          obtain ⟨m', o', q1, rfl, q3⟩ := p2
          obtain ⟨N', rfl⟩ : ∃ x, N' = x + 1 := ⟨N' - 1, by omega⟩
          exact ⟨.inr (s, (m' : Int), true, o'), by simp only [iter, h]; rfl, m', o', q1, rfl, q3⟩
        | some t =>
          rw [hx] at p2
          obtain ⟨m', q1, q2, rfl, q4⟩ := p2
          have hlen : t.1.length ≤ r1.length := by
            obtain ⟨u, u1, u2⟩ := bind_some' hx
            rw [(putN_some u2).1, w4, List.drop_drop]
            exact suf_len ((good_S rn nm d (k + 2) _ _ _ _ u1).1)
          have hlt : r1.length < (s.drop m).length := by
            rw [hp, List.length_append]
            have : 0 < p.length := List.length_pos_iff.mpr pne
            omega
          have e2 := congrArg List.length q2
          rw [List.length_drop] at e2 hlt
          obtain ⟨z, z1, z2⟩ := ih M N' m' t.2 q1 (by omega) q4 (by omega) (by omega)
          refine ⟨z, by simp only [iter, h]; exact z1, ?_⟩
          rw [q2] at z2
          exact z2
      · rw [if_neg hl] at hat
        exact ⟨_, stop hat, by dsimp only; rw [if_neg hl]; exact ⟨m, hm, rfl, rfl, ho⟩⟩
theorem impl_level (hK : 1000 < K) (hs : s.length ≤ 990) (hN : 30 ≤ N ∧ N ≤ 2000) {W V : (Int × List UInt8 × Int × Bool × List (Int × Int × List UInt8)) → Option Obj} {L : (Int × Int × List UInt8 × Int × Bool × List (Int × Int × List UInt8)) → Option Obj} (d k : Nat) (hk : k < 6) (deep : Int) (h0 : 0 ≤ deep) (h30 : deep ≤ 30)
    (hU : ∀ (n : Nat) (o : Os), n ≤ s.length → o.length ≤ 30 → ∃ v, L (((k + 1 : Nat) : Int), deep, s, (n : Int), false, o) = some v ∧ Res s N (S rn nm (d + 1) (k + 2) (s.drop n) o) v)
    (hL : ∀ (n : Nat) (o : Os), n ≤ s.length → o.length ≤ 30 → ∃ v, L (((k + 1 : Nat) : Int), deep + 1, s, (n : Int), false, o) = some v ∧ Res s N (S rn nm d (k + 2) (s.drop n) o) v)
    (n : Nat) (o : Os) (hn : n ≤ s.length) (ho : o.length ≤ 30) : ∃ v, F86b W V L K ((k : Int), deep, s, (n : Int), false, o) = some v ∧ Res s (N + 1) (S rn nm (d + 1) (k + 1) (s.drop n) o) v := by
  obtain ⟨v, e1, e2⟩ := hU n o hn ho
  unfold F86b
  dsimp only
  rw [show F114 K () = some [[15], [14], [13], [16, 17], [8, 9], [10, 11, 12]] from rfl, bindO_s]
  rw [decide_eq_false (show ¬ ((k : Int) = (([[15], [14], [13], [16, 17], [8, 9], [10, 11, 12]] : List (List Int)).length : Int)) by simp only [List.length_cons, List.length_nil]; omega), branch_f,
    w64_id (n := (k : Int) + 1) (by omega) (by omega), show ((k : Int) + 1) = ((k + 1 : Nat) : Int) by omega, e1, bindO_s]
  rw [S_level rn nm d k (s.drop n) o ((s.drop n).length + 1) (Nat.lt_succ_self _)]
  cases hx : S rn nm (d + 1) (k + 2) (s.drop n) o with
  | none =>
    rw [hx] at e2
    obtain ⟨m, o', q1, rfl, q3⟩ := e2
    obtain ⟨K', rfl⟩ : ∃ x, K = x + 1 := ⟨K - 1, by omega⟩
    exact ⟨(s, (m : Int), true, o'), rfl, m, o', q1, rfl, by omega⟩
  | some t =>
    rw [hx] at e2
    obtain ⟨m, q1, q2, rfl, q4⟩ := e2
    have hlen := suf_len ((good_S rn nm (d + 1) (k + 2) _ _ _ _ hx).1)
    obtain ⟨z, z1, z2⟩ := impl_loop hK hs hN (W := W) (V := V) (L := L) d k hk deep h0 h30 hL (s.length - m) ((s.drop n).length + 1) K m t.2 q1 (Nat.le_refl _) q4 (by omega) (by rw [← q2, List.length_drop] at hlen; omega)
    rw [z1, bindO_s, cs_un]
    rw [q2] at z2
    exact ⟨_, rfl, z2⟩
end
section
variable {K : Nat} (hK : 1000 < K) {s : By} (hs : s.length ≤ 990)
theorem impl_all (hK : 1000 < K) (hs : s.length ≤ 990) : ∀ d : Nat, d ≤ 30 →
    (∀ R, R ≤ 1900 → 10 * d + 1 ≤ R → ∀ (n : Nat) (o : Os), n ≤ s.length → o.length ≤ 30 → ∃ v, R115 K R (31 - (d : Int), s, (n : Int), false, o) = some v ∧ Res s (31 + R) (S rn nm d 7 (s.drop n) o) v) ∧
    (∀ j k : Nat, j + k = 6 → ∀ R, R ≤ 1900 → 10 * d + 2 + j ≤ R → ∀ (n : Nat) (o : Os), n ≤ s.length → o.length ≤ 30 → ∃ v, R86 K R ((k : Int), 31 - (d : Int), s, (n : Int), false, o) = some v ∧ Res s (31 + R) (S rn nm d (k + 1) (s.drop n) o) v)
  | 0, _ => by
    have bad : ∀ R, 1 ≤ R → ∀ (n : Nat) (o : Os), R115 K R (31 - ((0 : Nat) : Int), s, (n : Int), false, o) = some (s, (n : Int), true, o) := fun R hR n o => by
      obtain ⟨R, rfl⟩ : ∃ x, R = x + 1 := ⟨R - 1, by omega⟩
      rfl
    have bad2 : ∀ j k : Nat, j + k = 6 → ∀ R, 2 + j ≤ R → ∀ (n : Nat) (o : Os), R86 K R ((k : Int), 31 - ((0 : Nat) : Int), s, (n : Int), false, o) = some (s, (n : Int), true, o) := fun j => by
      induction j with
      | zero =>
        intro k hk R hR n o
        obtain ⟨R, rfl⟩ : ∃ x, R = x + 1 := ⟨R - 1, by omega⟩
        have : k = 6 := by omega
        subst this
        show bindO (R115 K R (31 - ((0 : Nat) : Int), s, (n : Int), false, o)) _ = _
        rw [bad R (by omega)]; rfl
      | succ j ih =>
        intro k hk R hR n o
        obtain ⟨R, rfl⟩ : ∃ x, R = x + 1 := ⟨R - 1, by omega⟩
        obtain ⟨K', rfl⟩ : ∃ x, K = x + 1 := ⟨K - 1, by omega⟩
        show F86b (R142 _ R) (R115 _ R) (R86 _ R) _ _ = _
        unfold F86b
        dsimp only
        rw [show F114 (K' + 1) () = some [[15], [14], [13], [16, 17], [8, 9], [10, 11, 12]] from rfl, bindO_s]
        rw [decide_eq_false (show ¬ ((k : Int) = (([[15], [14], [13], [16, 17], [8, 9], [10, 11, 12]] : List (List Int)).length : Int)) by simp only [List.length_cons, List.length_nil]; omega), branch_f,
          w64_id (n := (k : Int) + 1) (by omega) (by omega), show ((k : Int) + 1) = ((k + 1 : Nat) : Int) by omega, ih (k + 1) (by omega) R (by omega)]
        rfl
    exact ⟨fun R _ hR n o hn ho => ⟨_, bad R (by omega) n o, n, o, hn, rfl, by omega⟩, fun j k hjk R _ hR n o hn ho => ⟨_, bad2 j k hjk R (by omega) n o, n, o, hn, rfl, by omega⟩⟩
  | d + 1, hd => by
    obtain ⟨ihV, ihL⟩ := impl_all hK hs d (by omega)
    have ed : 31 - ((d + 1 : Nat) : Int) + 1 = 31 - (d : Int) := by omega
    have val : ∀ R, R ≤ 1900 → 10 * (d + 1) + 1 ≤ R → ∀ (n : Nat) (o : Os), n ≤ s.length → o.length ≤ 30 → ∃ v, R115 K R (31 - ((d + 1 : Nat) : Int), s, (n : Int), false, o) = some v ∧ Res s (31 + R) (S rn nm (d + 1) 7 (s.drop n) o) v := fun R h9 hR n o hn ho => by
      obtain ⟨R, rfl⟩ : ∃ x, R = x + 1 := ⟨R - 1, by omega⟩
      rw [S_seven]
      refine impl_value (W := R142 K R) (V := R115 K R) (L := R86 K R) hK hs (N := 31 + R) (by omega) (31 - ((d + 1 : Nat) : Int)) (by omega) (by omega) (fun n o hn ho => by rw [ed]; exact ihV R (by omega) (by omega) n o hn ho)
        (fun n o hn ho => by rw [ed]; exact ihL 6 0 rfl R (by omega) (by omega) n o hn ho) (fun n o hn ho h1 h2 h3 => ?_) n o hn ho
      obtain ⟨R, rfl⟩ : ∃ x, R = x + 1 := ⟨R - 1, by omega⟩
      obtain ⟨v, v1, v2⟩ := impl_word (W := R142 K R) (V := R115 K R) (L := R86 K R) (MV := S rn nm d 7) hK hs (N := 31 + R) (by omega) (31 - ((d + 1 : Nat) : Int)) (by omega) (by omega)
        (fun n o hn ho => by rw [ed]; exact ihL 6 0 rfl R (by omega) (by omega) n o hn ho) n o hn ho h1 h2 h3
      exact ⟨v, v1, v2.mono (by omega)⟩
    refine ⟨val, fun j => ?_⟩
    induction j with
    | zero =>
      intro k hk R h9 hR n o hn ho
      obtain ⟨R, rfl⟩ : ∃ x, R = x + 1 := ⟨R - 1, by omega⟩
      have : k = 6 := by omega
      subst this
      obtain ⟨v, v1, v2⟩ := val R (by omega) (by omega) n o hn ho
      refine ⟨v, ?_, v2.mono (by omega)⟩
      show bindO (R115 K R (31 - ((d + 1 : Nat) : Int), s, (n : Int), false, o)) _ = _
      rw [v1]; rfl
    | succ j ih =>
      intro k hk R h9 hR n o hn ho
      obtain ⟨R, rfl⟩ : ∃ x, R = x + 1 := ⟨R - 1, by omega⟩
      exact impl_level (W := R142 K R) (V := R115 K R) (L := R86 K R) hK hs (N := 31 + R) (by omega) d k (by omega) (31 - ((d + 1 : Nat) : Int)) (by omega) (by omega) (fun n o hn ho => ih (k + 1) (by omega) R (by omega) (by omega) n o hn ho)
        (fun n o hn ho => by rw [ed]; exact ihL j (k + 1) (by omega) R (by omega) (by omega) n o hn ho) n o hn ho
end
end Go.U.Tryz
namespace Go.U.Tryz
open Go Go.U Go.U.Exp
set_option maxRecDepth 20000
theorem F38_eq (K : Nat) (n a b : Int) : F38 K (n, a, b) = some (decide (a ≤ n) && decide (n ≤ b)) := by
  unfold F38
  dsimp only
  cases decide (a ≤ n) <;> rfl
theorem F110_eq (K : Nat) (k : Int) (h : 1 ≤ k ∧ k ≤ 17) : F110 K k = some (takesN k : Int) := by
  unfold F110 takesN
  rw [F38_eq, F38_eq, F38_eq, bindO_s]
  by_cases h1 : k ≤ 3
  · rw [decide_eq_true h.1, decide_eq_true h1, if_pos h1]; rfl
  · rw [decide_eq_true h.1, decide_eq_false h1, if_neg h1]
    simp only [Bool.and_false, branch_f, bindO_s]
    by_cases h2 : k ≤ 7
    · rw [decide_eq_true (show 4 ≤ k by omega), decide_eq_true h2, if_pos h2]; rfl
    · rw [decide_eq_true (show 4 ≤ k by omega), decide_eq_false h2, if_neg h2, decide_eq_true (show 8 ≤ k by omega), decide_eq_true h.2]; rfl
theorem node_kind {x : Nd} (h : nodeR nm x) : 1 ≤ x.1 ∧ x.1 ≤ 17 := by
  rcases h with h | h | h
  · omega
  · rcases h.1 with h | h <;> omega
  · omega
theorem F109_eq (K : Nat) (hK : 1000 < K) (x : Nd) (h : nodeR nm x) : F109 K x = some true := by
  obtain ⟨k, n, w⟩ := x
  have hk : 1 ≤ k ∧ k ≤ 17 := node_kind h
  unfold F109
  dsimp only
  rcases h with ⟨h1, h2, h3, h4⟩ | ⟨h1, h2, h3⟩ | ⟨h1, h2, h3, h4⟩
  · dsimp only at h1 h2 h3 h4
    subst h1 h4
    rw [show decide ((1 : Int) = 1) = true from rfl, branch_t, F38_eq, decide_eq_true h2, decide_eq_true h3]; rfl
  · dsimp only at h1 h2 h3
    subst h2
    rw [decide_eq_false (show ¬ k = 1 by omega), branch_f]
    rcases h1 with rfl | rfl
    · rw [show decide ((2 : Int) = 2) = true from rfl, branch_t, bindO_s]
      dsimp only
      rw [branch_t, show decide ((0 : Int) = 0) = true from rfl, branch_t, F137_eq K w hK, h3]; rfl
    · rw [show decide ((3 : Int) = 2) = false from rfl, branch_f, bindO_s, show decide ((3 : Int) = 3) = true from rfl]
      dsimp only
      rw [branch_t, show decide ((0 : Int) = 0) = true from rfl, branch_t, F137_eq K w hK, h3]; rfl
  · dsimp only at h1 h2 h3 h4
    subst h3 h4
    rw [decide_eq_false (show ¬ k = 1 by omega), branch_f, decide_eq_false (show ¬ k = 2 by omega), branch_f, decide_eq_false (show ¬ k = 3 by omega), bindO_s]
    dsimp only
    rw [branch_f, bindO_s, csO_r]
    dsimp only
    have : takesN k ≥ 1 := by unfold takesN; rw [if_neg (by omega)]; split <;> omega
    rw [show decide ((0 : Int) = 0) = true from rfl, show decide (([] : By) = []) = true from rfl, branch_t, branch_t, F110_eq K k hk, bindO_s, decide_eq_true (show (0 : Int) < ((takesN k : Nat) : Int) by omega)]
theorem F81_step (K : Nat) (hK : 1000 < K) (e : Os) (i h : Nat) (x : Nd) (hx : e[i]? = some x) (hn : nodeR nm x) (ht : takesN x.1 ≤ h) (hh : h ≤ 2000) (hl : e.length ≤ 1000) :
    F81_b0 K (e, (h : Int), (i : Int)) = some (.inl (e, ((h - takesN x.1 + 1 : Nat) : Int), ((i + 1 : Nat) : Int))) := by
  have hi : i < e.length := (List.getElem?_eq_some_iff.1 hx).1
  have e3 : w64 ((i : Int) + 1) = ((i + 1 : Nat) : Int) := by rw [w64_id (by omega) (by omega)]; omega
  unfold F81_b0
  dsimp only
  rw [decide_eq_true (show (i : Int) < (e.length : Int) by omega), branch_t]
  simp only [nth_s hx]
  rw [F109_eq K hK x hn, F110_eq K x.1 (node_kind hn), bindO_s, Bool.not_true, branch_f, bindO_s, decide_eq_false (show ¬ (h : Int) < ((takesN x.1 : Nat) : Int) by omega)]
  simp only [bindO_s, branch_f, csO_r, nth_s hx]
  rw [F110_eq K x.1 (node_kind hn), bindO_s, w64_id (n := (h : Int) - ((takesN x.1 : Nat) : Int)) (by omega) (by omega), w64_id (n := (h : Int) - ((takesN x.1 : Nat) : Int) + 1) (by omega) (by omega), e3,
    show (h : Int) - ((takesN x.1 : Nat) : Int) + 1 = ((h - takesN x.1 + 1 : Nat) : Int) by omega]
theorem F81_loop (K : Nat) (hK : 1000 < K) (e : Os) (hl : e.length ≤ 900) : ∀ (N i h g : Nat), i ≤ e.length → e.length - i < N → h + (e.length - i) ≤ 2000 → Stk nm (e.drop i) h g →
    iter N (F81_b0 K) (e, (h : Int), (i : Int)) = some (.inr (e, (g : Int)))
  | 0, i, h, g, _, hN, _, _ => absurd hN (Nat.not_lt_zero _)
  | N + 1, i, h, g, hi, hN, hh, hs => by
    rcases Nat.lt_or_ge i e.length with hlt | hge
    · rw [List.drop_eq_getElem_cons hlt] at hs
      obtain ⟨s1, s2, s3⟩ := hs
      have st := F81_step K hK e i h _ (List.getElem?_eq_getElem hlt) s1 s2 (by omega) (by omega)
      simp only [iter, st]
      exact F81_loop K hK e hl N (i + 1) _ g hlt (by omega) (by omega) s3
    · have : i = e.length := by omega
      subst this
      rw [List.drop_length] at hs
      have : g = h := hs
      subst this
      have : F81_b0 K (e, (g : Int), (e.length : Int)) = some (.inr (.inr (e, (g : Int)))) := by
        unfold F81_b0; dsimp only; rw [decide_eq_false (by omega)]; rfl
      simp only [iter, this]
theorem F81_eq (K : Nat) (hK : 1000 < K) (e : Os) (hl : e.length ≤ 30) (hs : Stk nm e 0 1) : F81 K e = some true := by
  have := F81_loop K hK e (by omega) K 0 0 1 (Nat.zero_le _) (by omega) (by omega) hs
  unfold F81
  rw [show ((0 : Nat) : Int) = 0 from rfl] at this
  rw [this]
  show branch (decide ((e.length : Int) ≤ 30)) _ _ = _
  rw [decide_eq_true (by omega)]; rfl
def comp (x : By) : Option Os := if 200 < x.length then none else match S rn nm 30 1 x [] with
  | some ([], e) => some e
  | _ => none
def okE (o : Option Os) : Os × Bool := match o with | some e => (e, true) | none => ([], false)
theorem comp_ok {x : By} {e : Os} (h : comp x = some e) : x.length ≤ 200 ∧ S rn nm 30 1 x [] = some ([], e) ∧ e.length ≤ 30 ∧ Stk nm e 0 1 := by
  unfold comp at h
  split at h
  · cases h
  rename_i hx
  split at h
  · rename_i e' hs
    cases h
    refine ⟨by omega, hs, short_S rn nm 30 1 _ _ _ _ hs (by simp), ?_⟩
    obtain ⟨e', h1, h2⟩ := right_S rn nm (fun w n h => rn_ok w n h) 30 1 _ _ _ _ hs
    rw [List.nil_append] at h1
    subst h1
    exact h2 0
  · cases h
theorem F45_eq (K : Nat) (hK : 1000 < K) (x : By) : F45 K x = some (okE (comp x)) := by
  unfold F45 comp
  by_cases hx : 200 < x.length
  · rw [decide_eq_true (show 200 < (x.length : Int) by omega), if_pos hx]; rfl
  rw [decide_eq_false (show ¬ 200 < (x.length : Int) by omega), branch_f, if_neg hx]
  obtain ⟨v, v1, v2⟩ := (spec_all hK (s := x) (by omega) 30 (Nat.le_refl _)).2 K (by omega) 1 0 [] (by omega) (by omega) (Nat.zero_le _) (by simp)
  have e1 : F80 K (1, 1, x, 0, false, []) = some v := v1
  rw [e1, bindO_s]
  rw [List.drop_zero] at v2
  cases hs : S rn nm 30 1 x [] with
  | none =>
    rw [hs] at v2
    obtain ⟨m, o, m1, rfl, m2⟩ := v2
    rfl
  | some t =>
    rw [hs] at v2
    obtain ⟨m, m1, m2, rfl, m3⟩ := v2
    obtain ⟨r, e⟩ := t
    dsimp only at m2 m3 ⊢
    rw [branch_f]
    cases r with
    | nil =>
      have hm : m = x.length := by
        have := congrArg List.length m2
        rw [List.length_drop, List.length_nil] at this; omega
      obtain ⟨e', h1, h2⟩ := right_S rn nm (fun w n h => rn_ok w n h) 30 1 _ _ _ _ hs
      rw [List.nil_append] at h1
      subst h1
      rw [decide_eq_true (show (m : Int) = (x.length : Int) by omega), Bool.not_true, branch_f, F81_eq K hK e m3 (h2 0)]
      rfl
    | cons c r =>
      have hm : ¬ (m : Int) = (x.length : Int) := by
        have := congrArg List.length m2
        rw [List.length_drop, List.length_cons] at this; omega
      rw [decide_eq_false hm]
      rfl
theorem F86_comp (K : Nat) (hK : 1000 < K ∧ K ≤ 1900) (x : By) (hx : ¬ 200 < x.length) : ∃ v : Obj, F86 K (0, 1, x, 0, false, []) = some v ∧
    ((comp x = none ∧ (v.2.2.1 = true ∨ (v.2.2.1 = false ∧ v.2.1 < (x.length : Int)))) ∨ ∃ e, comp x = some e ∧ v.2.2.1 = false ∧ ¬ v.2.1 < (x.length : Int) ∧ v.2.2.2 = e) := by
  obtain ⟨v, v1, v2⟩ := (impl_all hK.1 (s := x) (by omega) 30 (Nat.le_refl _)).2 6 0 rfl K (by omega) (by omega) 0 [] (Nat.zero_le _) (by simp)
  refine ⟨v, v1, ?_⟩
  rw [List.drop_zero] at v2
  unfold comp
  rw [if_neg hx]
  cases hs : S rn nm 30 1 x [] with
  | none =>
    rw [hs] at v2
    obtain ⟨m, o, m1, rfl, m2⟩ := v2
    exact .inl ⟨rfl, .inl rfl⟩
  | some t =>
    rw [hs] at v2
    obtain ⟨m, m1, m2, rfl, m3⟩ := v2
    obtain ⟨r, e⟩ := t
    dsimp only at m2 m3 ⊢
    cases r with
    | nil =>
      have hm : m = x.length := by
        have := congrArg List.length m2
        rw [List.length_drop, List.length_nil] at this; omega
      exact .inr ⟨e, rfl, rfl, by omega, rfl⟩
    | cons c r =>
      have hm : (m : Int) < (x.length : Int) := by
        have := congrArg List.length m2
        rw [List.length_drop, List.length_cons] at this; omega
      exact .inl ⟨rfl, .inr ⟨rfl, hm⟩⟩
theorem F50_eq (K : Nat) (hK : 1000 < K ∧ K ≤ 1900) (x : By) : F50 K x = some (okE (comp x)) := by
  unfold F50
  by_cases hx : 200 < x.length
  · rw [decide_eq_true (show 200 < (x.length : Int) by omega)]
    unfold comp; rw [if_pos hx]; rfl
  rw [decide_eq_false (show ¬ 200 < (x.length : Int) by omega), branch_f]
  obtain ⟨v, v1, v2⟩ := F86_comp K hK x hx
  rw [v1, bindO_s]
  obtain ⟨s, m, b, o⟩ := v
  rcases v2 with ⟨h1, h2 | ⟨h2, h3⟩⟩ | ⟨e, h1, h2, h3, h4⟩
  · dsimp only at h2; subst h2; rw [h1]; rfl
  · dsimp only at h2 h3 ⊢; subst h2; rw [h1, branch_f, decide_eq_true h3]; rfl
  · dsimp only at h2 h3 h4 ⊢; subst h2 h4; rw [h1, branch_f, decide_eq_false h3]; rfl
end Go.U.Tryz
