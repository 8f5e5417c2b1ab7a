/- A part of the proof. No condition. -/
import Derived.Test.YticcaekjfhgpcaaGreatDoorP3
import Derived.Test.YticcaekjfhgpcaaGreatDoorPHl
set_option linter.unusedVariables false
set_option linter.unusedSimpArgs false
set_option linter.unusedSectionVars false
namespace Go.U.Tryz
open Go Go.U Go.U.Exp
set_option maxRecDepth 20000
def regW : List By := ((F40 0 ()).getD []) ++ ((F79 0 ()).getD []) ++ ((F78 0 ()).getD [])
def eqB (s w : By) : Bool := decide (w = s)
def reg (s : By) : Bool := (([97, 102] : By) :: [97] :: regW).any (eqB s)
theorem F47_loop (K : Nat) (s : By) (W : List By) (hW : W.length ≤ 100) : ∀ (N i : Nat), i ≤ W.length → W.length - i < N →
    iter N (F47_b0 K) (s, (i : Int), W) = some (bif (W.drop i).any (eqB s) then .inl true else .inr ())
  | 0, i, _, h => absurd h (Nat.not_lt_zero _)
  | N + 1, i, hi, hN => by
    rcases Nat.lt_or_ge i W.length with hlt | hge
    · have st : F47_b0 K (s, (i : Int), W) = if W[i] = s then some (.inr (.inl true)) else some (.inl (s, ((i + 1 : Nat) : Int), W)) := by
        unfold F47_b0; dsimp only
        rw [decide_eq_true (show (i : Int) < (W.length : Int) by omega), branch_t, decide_eq_true (show 0 ≤ (i : Int) ∧ (i : Int) < (W.length : Int) by omega), guard_t, Int.toNat_natCast, nthN_s (List.getElem?_eq_getElem hlt),
          show w64 ((i : Int) + 1) = ((i + 1 : Nat) : Int) from w64_id (by omega) (by omega)]
        by_cases h : W[i] = s
        · rw [decide_eq_true h, if_pos h]; rfl
        · rw [decide_eq_false h, if_neg h]; rfl
      rw [List.drop_eq_getElem_cons hlt, List.any_cons]
      by_cases h : W[i] = s
      · rw [if_pos h] at st
        simp only [iter, st]
        rw [show eqB s W[i] = true from decide_eq_true h]; rfl
      · rw [if_neg h] at st
        simp only [iter, st]
        rw [F47_loop K s W hW N (i + 1) hlt (by omega), show eqB s W[i] = false from decide_eq_false h]; rfl
    · have : i = W.length := by omega
      subst this
      have st : F47_b0 K (s, (W.length : Int), W) = some (.inr (.inr ())) := by
        unfold F47_b0; dsimp only; rw [decide_eq_false (by omega)]; rfl
      simp only [iter, st, List.drop_length]
      rfl
theorem F47_eq (K : Nat) (hK : 1000 < K) (s : By) : F47 K s = some (reg s) := by
  have e : F47 K s = bindO (iter K (F47_b0 K) (s, ((0 : Nat) : Int), ([97, 102] : By) :: [97] :: regW)) fun v3 => csO v3 (fun v4 => some v4) (fun v5 => some false) := by kernel_rfl
  have hl : (([97, 102] : By) :: [97] :: regW).length ≤ 100 := by decide +kernel
  rw [e, F47_loop K s _ hl K 0 (Nat.zero_le _) (by omega), bindO_s, List.drop_zero]
  unfold reg
  cases (([97, 102] : By) :: [97] :: regW).any (eqB s) <;> rfl
theorem F146_loop (K : Nat) (s : By) (W : List By) (hW : W.length ≤ 100) : ∀ (N i : Nat), i ≤ W.length → W.length - i < N →
    ∃ z, iter N (F146_b0 K) (W, s, (W.length : Int), (i : Int)) = some z ∧ ((∃ n : Nat, z = .inl (n : Int)) ∧ (W.drop i).any (eqB s) = true ∨ z = .inr () ∧ (W.drop i).any (eqB s) = false)
  | 0, i, _, h => absurd h (Nat.not_lt_zero _)
  | N + 1, i, hi, hN => by
    rcases Nat.lt_or_ge i W.length with hlt | hge
    · have st : F146_b0 K (W, s, (W.length : Int), (i : Int)) = if s = W[i] then some (.inr (.inl (i : Int))) else some (.inl (W, s, (W.length : Int), ((i + 1 : Nat) : Int))) := by
        unfold F146_b0; dsimp only
        rw [decide_eq_true (show (i : Int) < (W.length : Int) by omega), branch_t, nth_s (List.getElem?_eq_getElem hlt),
          show w64 ((i : Int) + 1) = ((i + 1 : Nat) : Int) from w64_id (by omega) (by omega)]
        by_cases h : s = W[i]
        · rw [decide_eq_true h, if_pos h]; rfl
        · rw [decide_eq_false h, if_neg h]; rfl
      rw [List.drop_eq_getElem_cons hlt, List.any_cons]
      by_cases h : s = W[i]
      · rw [if_pos h] at st
        simp only [iter, st]
        rw [show eqB s W[i] = true from decide_eq_true h.symm]
        exact ⟨_, rfl, .inl ⟨⟨i, rfl⟩, rfl⟩⟩
      · rw [if_neg h] at st
        simp only [iter, st]
        rw [show eqB s W[i] = false from decide_eq_false fun e => h e.symm, Bool.false_or]
        exact F146_loop K s W hW N (i + 1) hlt (by omega)
    · have : i = W.length := by omega
      subst this
      have st : F146_b0 K (W, s, (W.length : Int), (W.length : Int)) = some (.inr (.inr ())) := by
        unfold F146_b0; dsimp only; rw [decide_eq_false (by omega)]; rfl
      simp only [iter, st, List.drop_length]
      exact ⟨_, rfl, .inr ⟨rfl, rfl⟩⟩
theorem F122_eq (K : Nat) (hK : 1000 < K) (s : By) (W : List By) (hW : W.length ≤ 100) : F122 K (W, s) = some (W.any (eqB s)) := by
  obtain ⟨z, h1, h2⟩ := F146_loop K s W hW K 0 (Nat.zero_le _) (by omega)
  unfold F122 F146
  show bindO (bindO (iter K (F146_b0 K) (W, s, (W.length : Int), ((0 : Nat) : Int))) _) _ = _
  rw [h1, bindO_s]
  rw [List.drop_zero] at h2
  rcases h2 with ⟨⟨n, rfl⟩, h⟩ | ⟨rfl, h⟩
  · rw [h]
    show some (decide (0 ≤ (n : Int))) = _
    rw [decide_eq_true (Int.natCast_nonneg n)]
  · rw [h]; rfl
theorem F64_s : F64 1100 () = some ((F64 1100 ()).getD []) := by kernel_rfl
theorem F94_s : F94 1100 () = some ((F94 1100 ()).getD []) := by kernel_rfl
theorem F93_s : F93 1100 () = some ((F93 1100 ()).getD []) := by kernel_rfl
theorem conc : F123 1100 [(F64 1100 ()).getD [], (F94 1100 ()).getD [], (F93 1100 ()).getD []] = some regW := by kernel_rfl
theorem reg_a : ([97] : By) ∈ regW := by decide +kernel
theorem F89_eq (s : By) : F89 1100 s = some (reg s) := by
  unfold F89
  rw [F64_s, F94_s, F93_s]
  simp only [bindO_s]
  rw [conc]
  simp only [bindO_s]
  rw [F122_eq 1100 (by omega) s regW (by decide +kernel), bindO_s]
  unfold reg
  rw [List.any_cons, List.any_cons]
  by_cases h : s = ([97, 102] : By)
  · rw [decide_eq_true h, branch_t, show eqB s [97, 102] = true from decide_eq_true h.symm]; rfl
  · rw [decide_eq_false h, branch_f, show eqB s [97, 102] = false from decide_eq_false fun e => h e.symm, Bool.false_or]
    cases h2 : eqB s [97] with
    | false => rw [Bool.false_or]
    | true => rw [Bool.true_or, List.any_eq_true.mpr ⟨_, reg_a, h2⟩]
theorem F119_loop (W : List By) (hW : W.length ≤ 100) : ∀ (N i : Nat), i ≤ W.length → W.length - i < N →
    ∃ z, iter N (F119_b0 1100) (W, (W.length : Int), (i : Int)) = some z ∧ ((∃ n : Nat, z = .inl (n : Int)) ∧ (W.drop i).any reg = true ∨ z = .inr () ∧ (W.drop i).any reg = false)
  | 0, i, _, h => absurd h (Nat.not_lt_zero _)
  | N + 1, i, hi, hN => by
    rcases Nat.lt_or_ge i W.length with hlt | hge
    · have st : F119_b0 1100 (W, (W.length : Int), (i : Int)) = bif reg W[i] then some (.inr (.inl (i : Int))) else some (.inl (W, (W.length : Int), ((i + 1 : Nat) : Int))) := by
        unfold F119_b0; dsimp only
        rw [decide_eq_true (show (i : Int) < (W.length : Int) by omega), branch_t, nth_s (List.getElem?_eq_getElem hlt), F89_eq, bindO_s,
          show w64 ((i : Int) + 1) = ((i + 1 : Nat) : Int) from w64_id (by omega) (by omega)]
        cases reg W[i] <;> rfl
      rw [List.drop_eq_getElem_cons hlt, List.any_cons]
      cases h : reg W[i] with
      | true =>
        rw [h] at st
        simp only [iter, st, cond_true]
        exact ⟨_, rfl, .inl ⟨⟨i, rfl⟩, rfl⟩⟩
      | false =>
        rw [h] at st
        simp only [iter, st, cond_false, Bool.false_or]
        exact F119_loop W hW N (i + 1) hlt (by omega)
    · have : i = W.length := by omega
      subst this
      have st : F119_b0 1100 (W, (W.length : Int), (W.length : Int)) = some (.inr (.inr ())) := by
        unfold F119_b0; dsimp only; rw [decide_eq_false (by omega)]; rfl
      simp only [iter, st, List.drop_length]
      exact ⟨_, rfl, .inr ⟨rfl, rfl⟩⟩
theorem F87_eq (W : List By) (hW : W.length ≤ 100) : F87 1100 W = some (W.any reg) := by
  obtain ⟨z, h1, h2⟩ := F119_loop W hW 1100 0 (Nat.zero_le _) (by omega)
  unfold F87 F119
  show bindO (bindO (iter 1100 (F119_b0 1100) (W, (W.length : Int), ((0 : Nat) : Int))) _) _ = _
  rw [h1, bindO_s]
  rw [List.drop_zero] at h2
  rcases h2 with ⟨⟨n, rfl⟩, h⟩ | ⟨rfl, h⟩
  · rw [h]
    show some (decide (0 ≤ (n : Int))) = _
    rw [decide_eq_true (Int.natCast_nonneg n)]
  · rw [h]; rfl
theorem compact_mem {α : Type} [Inhabited α] [DecidableEq α] (zs : List α) (x : α) : x ∈ Lib.compact zs ↔ x ∈ zs := by
  have key : ∀ j, j < zs.length → zs.toArray[j]! ∈ Lib.compact zs := by
    intro j
    induction j with
    | zero =>
      intro hj
      refine List.mem_map.mpr ⟨0, List.mem_filter.mpr ⟨List.mem_range.mpr hj, ?_⟩, rfl⟩
      simp [Lib.keeps]
    | succ j ih =>
      intro hj
      by_cases h : zs.toArray[j + 1]! = zs.toArray[j]!
      · rw [h]; exact ih (by omega)
      · refine List.mem_map.mpr ⟨j + 1, List.mem_filter.mpr ⟨List.mem_range.mpr hj, ?_⟩, rfl⟩
        exact Lib.keeps_pos h
  constructor
  · intro h
    obtain ⟨j, hj, rfl⟩ := List.mem_map.mp h
    have hj := List.mem_range.mp (List.mem_filter.mp hj).1
    simp [hj]
  · intro h
    obtain ⟨j, hj, rfl⟩ := List.mem_iff_getElem.mp h
    have := key j hj
    simpa [hj] using this
def nmsOf (e : Os) : List By := (e.map fun x => x.2.2).filter fun w => !decide (w = [])
theorem F88_loop (e : Os) (he : e.length ≤ 100) : ∀ (N i : Nat) (acc : List By), i ≤ e.length → e.length - i < N → acc.length ≤ i →
    iter N (F88_b0 1100) (e, (e.length : Int), (i : Int), acc) = some (acc ++ nmsOf (e.drop i))
  | 0, i, _, _, h, _ => absurd h (Nat.not_lt_zero _)
  | N + 1, i, acc, hi, hN, ha => by
    rcases Nat.lt_or_ge i e.length with hlt | hge
    · have hf : fitN (acc.length + [(e[i]).2.2].length) 16 = true := by
        exact decide_eq_true (by simp; omega)
      have st : F88_b0 1100 (e, (e.length : Int), (i : Int), acc) = bif !decide ((e[i]).2.2 = []) then some (.inl (e, (e.length : Int), ((i + 1 : Nat) : Int), acc ++ [(e[i]).2.2])) else some (.inl (e, (e.length : Int), ((i + 1 : Nat) : Int), acc)) := by
        unfold F88_b0; dsimp only
        rw [decide_eq_true (show (i : Int) < (e.length : Int) by omega), branch_t, nth_s (List.getElem?_eq_getElem hlt), hf, guard_t,
          show w64 ((i : Int) + 1) = ((i + 1 : Nat) : Int) from w64_id (by omega) (by omega)]
        cases !decide ((e[i]).2.2 = []) <;> rfl
      have hd : nmsOf (e.drop i) = bif !decide ((e[i]).2.2 = []) then (e[i]).2.2 :: nmsOf (e.drop (i + 1)) else nmsOf (e.drop (i + 1)) := by
        rw [List.drop_eq_getElem_cons hlt]
        unfold nmsOf
        rw [List.map_cons, List.filter_cons]
        cases !decide ((e[i]).2.2 = []) <;> rfl
      rw [hd]
      cases h : !decide ((e[i]).2.2 = []) with
      | true =>
        rw [h] at st
        simp only [iter, st, cond_true]
        rw [F88_loop e he N (i + 1) _ hlt (by omega) (by simp; omega)]
        simp
      | false =>
        rw [h] at st
        simp only [iter, st, cond_false]
        exact F88_loop e he N (i + 1) _ hlt (by omega) (by omega)
    · have : i = e.length := by omega
      subst this
      have st : F88_b0 1100 (e, (e.length : Int), (e.length : Int), acc) = some (.inr acc) := by
        unfold F88_b0; dsimp only; rw [decide_eq_false (by omega)]; rfl
      simp only [iter, st, List.drop_length]
      simp [nmsOf]
theorem F51_eq (e : Os) (he : e.length ≤ 100) : F51 1100 e = some (!(nmsOf e).any reg) := by
  unfold F51 F88
  show bindO (bindO (iter 1100 (F88_b0 1100) (e, (e.length : Int), ((0 : Nat) : Int), [])) _) _ = _
  rw [F88_loop e he 1100 0 [] (Nat.zero_le _) (by omega) (Nat.le_refl _), bindO_s, List.drop_zero, List.nil_append]
  have hl : (nmsOf e).length ≤ 100 := by
    unfold nmsOf
    exact Nat.le_trans (List.length_filter_le _ _) (by rw [List.length_map]; exact he)
  have h1 : F120 1100 (nmsOf e) = some ((nmsOf e).mergeSort fun x y => decide (x ≤ y)) := by
    show guard _ _ = _
    rw [decide_eq_true (by omega)]; rfl
  rw [h1, bindO_s]
  have hl2 : ((nmsOf e).mergeSort fun x y => decide (x ≤ y)).length ≤ 100 := by rw [List.length_mergeSort]; exact hl
  have h2 : F121 1100 ((nmsOf e).mergeSort fun x y => decide (x ≤ y)) = some (Lib.compact ((nmsOf e).mergeSort fun x y => decide (x ≤ y))) := by
    show guard _ _ = _
    rw [decide_eq_true (by omega)]; rfl
  rw [h2, bindO_s, bindO_s, F87_eq _ (Nat.le_trans (Lib.compact_length_le _) hl2), bindO_s]
  congr 2
  rw [Bool.eq_iff_iff, List.any_eq_true, List.any_eq_true]
  constructor
  · rintro ⟨x, hx, h⟩; exact ⟨x, List.mem_mergeSort.mp ((compact_mem _ _).mp hx), h⟩
  · rintro ⟨x, hx, h⟩; exact ⟨x, (compact_mem _ _).mpr (List.mem_mergeSort.mpr hx), h⟩
end Go.U.Tryz
namespace Go.U.Tryz
open Go Go.U Go.U.Exp
set_option maxRecDepth 20000
theorem F82_loop (K : Nat) (s : By) (l : List By) (hl : l.length ≤ 100) : ∀ (N i : Nat), i ≤ l.length → l.length - i < N →
    ∃ j : Nat, iter N (F82_b0 K) (l, s, (i : Int)) = some (l, s, (j : Int)) ∧ j ≤ l.length
  | 0, i, _, h => absurd h (Nat.not_lt_zero _)
  | N + 1, i, hi, hN => by
    rcases Nat.lt_or_ge i l.length with hlt | hge
    · have st : F82_b0 K (l, s, (i : Int)) = bif Go.Op.bytesLess l[i] s then some (.inl (l, s, ((i + 1 : Nat) : Int))) else some (.inr (l, s, (i : Int))) := by
        unfold F82_b0; dsimp only
        rw [decide_eq_true (show (i : Int) < (l.length : Int) by omega), branch_t, nth_s (List.getElem?_eq_getElem hlt),
          show w64 ((i : Int) + 1) = ((i + 1 : Nat) : Int) from w64_id (by omega) (by omega)]
        cases Go.Op.bytesLess l[i] s <;> rfl
      cases h : Go.Op.bytesLess l[i] s with
      | true =>
        rw [h] at st
        simp only [iter, st, cond_true]
        exact F82_loop K s l hl N (i + 1) hlt (by omega)
      | false =>
        rw [h] at st
        simp only [iter, st, cond_false]
        exact ⟨i, rfl, hi⟩
    · have : i = l.length := by omega
      subst this
      have st : F82_b0 K (l, s, (l.length : Int)) = some (.inr (l, s, (l.length : Int))) := by
        unfold F82_b0; dsimp only; rw [decide_eq_false (by omega)]; rfl
      simp only [iter, st]
      exact ⟨l.length, rfl, Nat.le_refl _⟩
theorem fitN_t {n : Nat} (h : n ≤ 5000) : fitN n 16 = true := decide_eq_true (by omega)
theorem F82_eq (K : Nat) (hK : 1000 < K) (l : List By) (s : By) (hl : l.length ≤ 100) :
    ∃ l', F82 K (l, s) = some l' ∧ (∀ x, x ∈ l' ↔ x = s ∨ x ∈ l) ∧ l'.length ≤ l.length + 1 := by
  obtain ⟨j, h1, h2⟩ := F82_loop K s l hl K 0 (Nat.zero_le _) (by omega)
  have new : ∀ x, x ∈ ([] ++ l.take j ++ [s]) ++ l.drop j ↔ x = s ∨ x ∈ l := by
    intro x
    constructor
    · intro h
      rcases List.mem_append.mp h with h | h
      · rcases List.mem_append.mp h with h | h
        · exact .inr (List.mem_of_mem_take h)
        · exact .inl (List.mem_singleton.mp h)
      · exact .inr (List.mem_of_mem_drop h)
    · rintro (h | h)
      · exact List.mem_append.mpr (.inl (List.mem_append.mpr (.inr (List.mem_singleton.mpr h))))
      · rw [← List.take_append_drop j l] at h
        rcases List.mem_append.mp h with h | h
        · exact List.mem_append.mpr (.inl (List.mem_append.mpr (.inl h)))
        · exact List.mem_append.mpr (.inr h)
  have hlen : (([] ++ l.take j ++ [s]) ++ l.drop j).length = l.length + 1 := by
    simp; omega
  have fin : (guard (decide (0 ≤ (j : Int) ∧ (j : Int) ≤ (l.length : Int))) <|
   guard (fitN (0 + ((tkL l (j : Int)).length)) 16) <|
   guard (fitN ((([] ++ (tkL l (j : Int))).length) + [s].length) 16) <|
   guard (decide (0 ≤ (j : Int) ∧ (j : Int) ≤ (l.length : Int))) <|
   guard (fitN (((([] ++ (tkL l (j : Int))) ++ [s]).length) + ((dpL l (j : Int)).length)) 16) <|
   some ((([] ++ (tkL l (j : Int))) ++ [s]) ++ (dpL l (j : Int)))) = some (([] ++ l.take j ++ [s]) ++ l.drop j) := by
    unfold tkL dpL
    rw [Int.toNat_natCast, decide_eq_true (show 0 ≤ (j : Int) ∧ (j : Int) ≤ (l.length : Int) by omega), fitN_t (by simp; omega), fitN_t (by simp; omega), fitN_t (by simp; omega)]
    rfl
  unfold F82
  show ∃ l', bindO (iter K (F82_b0 K) (l, s, ((0 : Nat) : Int))) _ = some l' ∧ _
  rw [h1, bindO_s]
  dsimp only
  rcases Nat.lt_or_ge j l.length with hlt | hge
  · rw [decide_eq_true (show (j : Int) < (l.length : Int) by omega), branch_t, nth_s (List.getElem?_eq_getElem hlt)]
    by_cases h : l[j] = s
    · rw [decide_eq_true h]
      refine ⟨l, rfl, fun x => ⟨.inr, ?_⟩, Nat.le_succ _⟩
      rintro (h' | h')
      · rw [h', ← h]; exact List.getElem_mem ..
      · exact h'
    · rw [decide_eq_false h, bindO_s]
      dsimp only
      rw [branch_f, bindO_s]
      simp only [csO]
      rw [fin]
      exact ⟨_, rfl, new, Nat.le_of_eq hlen⟩
  · rw [decide_eq_false (show ¬ (j : Int) < (l.length : Int) by omega), branch_f, bindO_s]
    dsimp only
    rw [branch_f, bindO_s]
    simp only [csO]
    rw [fin]
    exact ⟨_, rfl, new, Nat.le_of_eq hlen⟩
theorem F46_loop (K : Nat) (hK : 1000 < K) (e : Os) (he : e.length ≤ 30) (hs : Stk nm e 0 1) : ∀ (N i : Nat) (acc : List By), i ≤ e.length → e.length - i < N → acc.length ≤ i →
    ∃ r, iter N (F46_b0 K) (e, acc, (i : Int)) = some r ∧ (∀ x, x ∈ r ↔ x ∈ acc ∨ x ∈ nmsOf (e.drop i)) ∧ r.length ≤ 30
  | 0, i, _, _, h, _ => absurd h (Nat.not_lt_zero _)
  | N + 1, i, acc, hi, hN, ha => by
    rcases Nat.lt_or_ge i e.length with hlt | hge
    · obtain ⟨l', p1, p2, p3⟩ := F82_eq K hK acc (e[i]).2.2 (by omega)
      have st : F46_b0 K (e, acc, (i : Int)) = bif !decide ((e[i]).2.2 = []) then some (.inl (e, l', ((i + 1 : Nat) : Int))) else some (.inl (e, acc, ((i + 1 : Nat) : Int))) := by
        unfold F46_b0; dsimp only
        rw [F81_eq K hK e he hs, bindO_s, branch_t, decide_eq_true (show (i : Int) < (e.length : Int) by omega), branch_t, bindO_s]
        simp only [csO]
        rw [nth_s (List.getElem?_eq_getElem hlt), nth_s (List.getElem?_eq_getElem hlt), p1, bindO_s,
          show w64 ((i : Int) + 1) = ((i + 1 : Nat) : Int) from w64_id (by omega) (by omega)]
        cases !decide ((e[i]).2.2 = []) <;> rfl
      have hd : nmsOf (e.drop i) = bif !decide ((e[i]).2.2 = []) then (e[i]).2.2 :: nmsOf (e.drop (i + 1)) else nmsOf (e.drop (i + 1)) := by
        rw [List.drop_eq_getElem_cons hlt]
        unfold nmsOf
        rw [List.map_cons, List.filter_cons]
        cases !decide ((e[i]).2.2 = []) <;> rfl
      rw [hd]
      cases h : !decide ((e[i]).2.2 = []) with
      | true =>
        rw [h] at st
        simp only [iter, st, cond_true]
        obtain ⟨r, r1, r2, r3⟩ := F46_loop K hK e he hs N (i + 1) l' hlt (by omega) (by omega)
        refine ⟨r, r1, fun x => ?_, r3⟩
        rw [r2, p2, List.mem_cons]
        constructor
        · rintro ((h | h) | h)
          · exact .inr (.inl h)
          · exact .inl h
          · exact .inr (.inr h)
        · rintro (h | h | h)
          · exact .inl (.inr h)
          · exact .inl (.inl h)
          · exact .inr h
      | false =>
        rw [h] at st
        simp only [iter, st, cond_false]
        exact F46_loop K hK e he hs N (i + 1) _ hlt (by omega) (by omega)
    · have : i = e.length := by omega
      subst this
      have st : F46_b0 K (e, acc, (e.length : Int)) = some (.inr acc) := by
        unfold F46_b0; dsimp only
        rw [F81_eq K hK e he hs, bindO_s, branch_t, decide_eq_false (by omega)]; rfl
      simp only [iter, st, List.drop_length]
      exact ⟨acc, rfl, fun x => by simp [nmsOf], by omega⟩
theorem F21_loop (K : Nat) (hK : 1000 < K) (e : Os) (W : List By) (hW : W.length ≤ 100) : ∀ (N i : Nat), i ≤ W.length → W.length - i < N →
    iter N (F21_b0 K) (e, W, (i : Int)) = some (bif (W.drop i).any reg then .inl ([], false) else .inr e)
  | 0, i, _, h => absurd h (Nat.not_lt_zero _)
  | N + 1, i, hi, hN => by
    rcases Nat.lt_or_ge i W.length with hlt | hge
    · have st : F21_b0 K (e, W, (i : Int)) = bif reg W[i] then some (.inr (.inl ([], false))) else some (.inl (e, W, ((i + 1 : Nat) : Int))) := by
        unfold F21_b0; dsimp only
        rw [decide_eq_true (show (i : Int) < (W.length : Int) by omega), branch_t, nth_s (List.getElem?_eq_getElem hlt), F47_eq K hK, bindO_s,
          show w64 ((i : Int) + 1) = ((i + 1 : Nat) : Int) from w64_id (by omega) (by omega)]
        cases reg W[i] <;> rfl
      rw [List.drop_eq_getElem_cons hlt, List.any_cons]
      cases h : reg W[i] with
      | true =>
        rw [h] at st
        simp only [iter, st, cond_true, Bool.true_or]
      | false =>
        rw [h] at st
        simp only [iter, st, cond_false, Bool.false_or]
        exact F21_loop K hK e W hW N (i + 1) hlt (by omega)
    · have : i = W.length := by omega
      subst this
      have st : F21_b0 K (e, W, (W.length : Int)) = some (.inr (.inr e)) := by
        unfold F21_b0; dsimp only; rw [decide_eq_false (by omega)]; rfl
      simp only [iter, st, List.drop_length]
      rfl
def fr (x : By) : Option Os := (comp x).bind fun e => bif (nmsOf e).any reg then none else some e
theorem F21_eq (K : Nat) (hK : 1000 < K) (x : By) : F21 K x = some (okE (fr x)) := by
  unfold F21 fr
  rw [F45_eq K hK, bindO_s]
  cases hc : comp x with
  | none => rfl
  | some e =>
    obtain ⟨_, _, he, hs⟩ := comp_ok hc
    obtain ⟨r, r1, r2, r3⟩ := F46_loop K hK e he hs K 0 [] (Nat.zero_le _) (by omega) (Nat.le_refl _)
    simp only [okE, Option.bind_some, Bool.not_true, branch_f]
    have hF : F46 K e = some r := by
      unfold F46
      show bindO (iter K (F46_b0 K) (e, [], ((0 : Nat) : Int))) _ = _
      rw [r1]; rfl
    rw [hF, bindO_s]
    show bindO (iter K (F21_b0 K) (e, r, ((0 : Nat) : Int))) _ = _
    rw [F21_loop K hK e r (by omega) K 0 (Nat.zero_le _) (by omega), bindO_s, List.drop_zero]
    have hany : r.any reg = (nmsOf e).any reg := by
      rw [Bool.eq_iff_iff, List.any_eq_true, List.any_eq_true]
      rw [List.drop_zero] at r2
      constructor
      · rintro ⟨y, hy, h⟩; exact ⟨y, ((r2 y).mp hy).resolve_left (by simp), h⟩
      · rintro ⟨y, hy, h⟩; exact ⟨y, (r2 y).mpr (.inr hy), h⟩
    rw [hany]
    cases (nmsOf e).any reg <;> rfl
end Go.U.Tryz
namespace Go.U.Tryz
open Go Go.U Go.U.Exp
set_option maxRecDepth 20000
theorem and_split {a b : Bool} (h : (a && b) = true) : a = true ∧ b = true := by rw [Bool.and_eq_true] at h; exact h
theorem t18 (k : Nat) (hk : k < 512) : F18 1100 (((k % 256 : Nat) : Int), decide (256 ≤ k)) = some (tq k) := of_decide_eq_true (all_range t18_all k hk)
theorem t31 (k : Nat) (hk : k < 512) : F31 1100 (((k % 256 : Nat) : Int), decide (256 ≤ k)) = some (tq k) := of_decide_eq_true (all_range t31_all k hk)
theorem t19 (k : Nat) (hk : k < 512) : F19 1100 (tq k) = some (hq k) := of_decide_eq_true (all_range t19_all k hk)
theorem t32 (k : Nat) (hk : k < 512) : F32 1100 (tq k) = some (hole k) := of_decide_eq_true (all_range t32_all k hk)
theorem tH (k : Nat) (hk : k < 512) : decide ((hq k).1 < 0) = decide (hole k = []) := by
  have := all_range tH_all k hk
  exact of_decide_eq_true (by simpa using this)
theorem tN (k : Nat) (hk : k < 512) (h : tq k = []) : (hq k).1 < 0 := by
  have := all_range tN_all k hk
  rw [decide_eq_true h] at this
  exact of_decide_eq_true this
theorem tC (k : Nat) (hk : k < 512) (h : ¬ (hq k).1 < 0) : F83 1100 (tq k, hole k) = some (headT k, tailT k, true) ∧ (hq k).1 = (at_ k : Int) ∧ at_ k + (hole k).length ≤ (tq k).length ∧ (headT k).length = at_ k ∧ (tq k).length ≤ 30 := by
  have := all_range tC_all k hk
  rw [decide_eq_false h, Bool.false_or] at this
  obtain ⟨h1, h5⟩ := and_split this
  obtain ⟨h1, h4⟩ := and_split h1
  obtain ⟨h1, h3⟩ := and_split h1
  obtain ⟨h1, h2⟩ := and_split h1
  exact ⟨of_decide_eq_true h1, of_decide_eq_true h2, of_decide_eq_true h3, of_decide_eq_true h4, of_decide_eq_true h5⟩
def fit (k : Nat) (x : By) : Option By :=
  bif (headT k).isPrefixOf x && (tailT k).isSuffixOf (x.drop (at_ k)) then some ((x.drop (at_ k)).take ((x.drop (at_ k)).length - (tailT k).length)) else none
theorem tail_len (k : Nat) : (tailT k).length = (tq k).length - (at_ k + (hole k).length) := List.length_drop
theorem F49_eq (k : Nat) (hk : k < 512) (h : ¬ (hq k).1 < 0) (x : By) (hx : x.length ≤ 80) :
    ∃ r, F49 1100 (tq k, hole k, x) = some r ∧ (match fit k x with | some m => r = (m, true) | none => r.2 = false) := by
  obtain ⟨c1, c2, c3, c4, c5⟩ := tC k hk h
  have e1 : F84 1100 (x, headT k) = some (Lib.trimPrefix x (headT k), Lib.hasPrefix x (headT k)) := rfl
  have e2 : ∀ y : By, y.length ≤ 80 → F85 1100 (y, tailT k) = some (Lib.trimSuffix y (tailT k), Lib.hasSuffix y (tailT k)) := fun y hy => by
    show guard _ _ = _
    rw [decide_eq_true (by show y.length ≤ 9223372036854775807; omega)]; rfl
  unfold F49
  dsimp only
  rw [c1, bindO_s]
  dsimp only
  rw [e1, bindO_s]
  dsimp only
  have hl : (Lib.trimPrefix x (headT k)).length ≤ 80 := by
    unfold Lib.trimPrefix
    split
    · rw [List.length_drop]; omega
    · exact hx
  rw [e2 _ hl, bindO_s]
  dsimp only
  unfold fit
  cases hp : (headT k).isPrefixOf x with
  | false =>
    rw [show Lib.hasPrefix x (headT k) = false from hp, branch_f]
    exact ⟨_, rfl, rfl⟩
  | true =>
    have ht : Lib.trimPrefix x (headT k) = x.drop (at_ k) := by
      unfold Lib.trimPrefix
      rw [if_pos (show Lib.hasPrefix x (headT k) = true from hp), c4]
    rw [show Lib.hasPrefix x (headT k) = true from hp, branch_t, ht, Bool.true_and]
    refine ⟨_, rfl, ?_⟩
    unfold Lib.trimSuffix Lib.hasSuffix
    cases hs : (tailT k).isSuffixOf (x.drop (at_ k)) with
    | false => rfl
    | true => rfl
theorem F20_eq (k : Nat) (hk : k < 512) (h : ¬ (hq k).1 < 0) (x : By) (hx : x.length ≤ 80) :
    ∃ r, F20 1100 (x, tq k) = some r ∧ (match fit k x with | some m => if m = [] then r.2 = false else r = (m, true) | none => r.2 = false) := by
  obtain ⟨c1, c2, c3, c4, c5⟩ := tC k hk h
  have w1 : w64 ((hq k).1 + ((hq k).2.length : Int)) = ((at_ k + (hole k).length : Nat) : Int) := by
    rw [c2]; exact w64_id (by omega) (by have : (hq k).2 = hole k := rfl; rw [this]; omega)
  have hd : dpL (tq k) ((at_ k + (hole k).length : Nat) : Int) = tailT k := by
    unfold dpL; rw [Int.toNat_natCast]; rfl
  have tl := tail_len k
  have w2 : w64 ((at_ k : Int) + ((tailT k).length : Int)) = ((at_ k + (tailT k).length : Nat) : Int) := by
    exact w64_id (by omega) (by omega)
  have hpre : (headT k).isPrefixOf x = decide (x.take (at_ k) = headT k) := by
    rw [pre_dec, c4]
  unfold F20
  dsimp only
  rw [t19 k hk, bindO_s, decide_eq_false h, branch_f, w1, hd, decide_eq_true (by omega), guard_t, c2, w2]
  by_cases g1 : (x.length : Int) ≤ ((at_ k + (tailT k).length : Nat) : Int)
  · rw [decide_eq_true g1, branch_t, bindO_s]
    dsimp only
    rw [branch_t, bindO_s]
    refine ⟨_, rfl, ?_⟩
    have hz : (x.drop (at_ k)).length - (tailT k).length = 0 := by rw [List.length_drop]; omega
    unfold fit
    rw [hz, List.take_zero]
    cases ((headT k).isPrefixOf x && (tailT k).isSuffixOf (x.drop (at_ k))) <;> rfl
  · rw [decide_eq_false g1, branch_f, decide_eq_true (show 0 ≤ (at_ k : Int) ∧ (at_ k : Int) ≤ (x.length : Int) by omega), guard_t, decide_eq_true (show 0 ≤ (at_ k : Int) ∧ (at_ k : Int) ≤ ((tq k).length : Int) by omega), guard_t]
    have e3 : decide (tkL x (at_ k : Int) = tkL (tq k) (at_ k : Int)) = (headT k).isPrefixOf x := by
      rw [hpre]; unfold tkL; rw [Int.toNat_natCast]; rfl
    rw [e3]
    unfold fit
    cases hp : (headT k).isPrefixOf x with
    | false =>
      rw [Bool.not_false, branch_t, bindO_s]
      dsimp only
      rw [branch_t, bindO_s]
      exact ⟨_, rfl, rfl⟩
    | true =>
      rw [Bool.not_true, branch_f, Bool.true_and]
      have w3 : w64 ((x.length : Int) - ((tailT k).length : Int)) = ((x.length - (tailT k).length : Nat) : Int) := by
        rw [w64_id (by omega) (by omega)]; omega
      rw [w3, decide_eq_true (by omega), guard_t, bindO_s]
      dsimp only
      have e4 : decide (dpL x ((x.length - (tailT k).length : Nat) : Int) = tailT k) = (tailT k).isSuffixOf (x.drop (at_ k)) := by
        unfold dpL
        rw [Int.toNat_natCast, Bool.eq_iff_iff, decide_eq_true_iff, List.isSuffixOf_iff_suffix, List.suffix_iff_eq_drop, List.drop_drop, List.length_drop,
          show at_ k + (x.length - at_ k - (tailT k).length) = x.length - (tailT k).length by omega]
        exact eq_comm
      rw [e4]
      cases hs : (tailT k).isSuffixOf (x.drop (at_ k)) with
      | false =>
        rw [Bool.not_false, branch_t, bindO_s]
        exact ⟨_, rfl, rfl⟩
      | true =>
        rw [Bool.not_true, branch_f, bindO_s]
        simp only [csO]
        rw [w3, decide_eq_true (by omega), guard_t]
        refine ⟨_, rfl, ?_⟩
        have e5 : subL x (at_ k : Int) ((x.length - (tailT k).length : Nat) : Int) = (x.drop (at_ k)).take ((x.drop (at_ k)).length - (tailT k).length) := by
          unfold subL
          rw [Int.toNat_natCast, Int.toNat_natCast, List.length_drop]
          congr 1; omega
        rw [e5]
        have hne : (x.drop (at_ k)).take ((x.drop (at_ k)).length - (tailT k).length) ≠ [] := by
          intro h0
          have := congrArg List.length h0
          rw [List.length_take, List.length_drop] at this
          simp only [List.length_nil] at this
          omega
        rw [cond_true]
        dsimp only
        rw [if_neg hne]
end Go.U.Tryz
namespace Go.U.Tryz
open Go Go.U Go.U.Exp
set_option maxRecDepth 20000
def fndB (p : Nat → Bool) : Nat → Nat → Option Nat
  | 0, _ => none
  | n + 1, k => bif p k then some k else fndB p n (k + 1)
theorem fndB_add (p : Nat → Bool) : ∀ (n m k : Nat), fndB p (n + m) k = match fndB p n k with | some j => some j | none => fndB p m (k + n)
  | 0, m, k => by rw [Nat.zero_add]; rfl
  | n + 1, m, k => by
    rw [show n + 1 + m = (n + m) + 1 by omega]
    simp only [fndB]
    cases h : p k with
    | true => rfl
    | false =>
      simp only [cond_false]
      rw [fndB_add p n m (k + 1), show k + 1 + n = k + (n + 1) by omega]
def fnd (q : Nat → Option Os) : Nat → Nat → Option (Nat × Os)
  | 0, _ => none
  | n + 1, k => match q k with | some e => some (k, e) | none => fnd q n (k + 1)
theorem fndB_lt (p : Nat → Bool) : ∀ (n k j : Nat), fndB p n k = some j → k ≤ j ∧ j < k + n ∧ p j = true
  | 0, k, j, h => by cases h
  | n + 1, k, j, h => by
    simp only [fndB] at h
    cases hp : p k with
    | true => rw [hp] at h; cases h; exact ⟨Nat.le_refl _, by omega, hp⟩
    | false => rw [hp] at h; have := fndB_lt p n (k + 1) j h; exact ⟨by omega, by omega, this.2.2⟩
theorem fnd_lt (q : Nat → Option Os) : ∀ (n k j : Nat) (e : Os), fnd q n k = some (j, e) → k ≤ j ∧ j < k + n ∧ q j = some e
  | 0, k, j, e, h => by cases h
  | n + 1, k, j, e, h => by
    simp only [fnd] at h
    cases hp : q k with
    | some e' => rw [hp] at h; cases h; exact ⟨Nat.le_refl _, by omega, hp⟩
    | none => rw [hp] at h; have := fnd_lt q n (k + 1) j e h; exact ⟨by omega, by omega, this.2.2⟩
def pw0 (x : By) (k : Nat) : Bool := !decide (tq k = []) && (decide ((hq k).1 < 0) && decide (tq k = x))
def qq (x : By) (k : Nat) : Option Os := bif decide ((hq k).1 < 0) then none else (fit k x).bind fr
def fit0 (x : By) : Option Nat := fndB (pw0 x) 512 0
def fit1 (x : By) : Option (Nat × Os) := fnd (qq x) 256 0
abbrev Ot := Int × Bool × By × Os × Bool
def out (x : By) : Ot := if 80 < (x.length : Int) then (0, false, [], [], false) else match fit0 x with
  | some k => (((k % 256 : Nat) : Int), decide (256 ≤ k), [], [], true)
  | none => match fit1 x with
    | some (k, e) => ((k : Int), false, hole k, e, true)
    | none => (0, false, [], [], false)
theorem md (k : Nat) : Int.tmod (k : Int) 256 = ((k % 256 : Nat) : Int) := by
  rw [Int.tmod_eq_emod_of_nonneg (Int.natCast_nonneg k)]; rfl
theorem dge (k : Nat) : decide ((256 : Int) ≤ (k : Int)) = decide (256 ≤ k) := by
  by_cases h : 256 ≤ k
  · rw [decide_eq_true h, decide_eq_true (by omega)]
  · rw [decide_eq_false h, decide_eq_false (by omega)]
theorem F5_one (x : By) : ∀ (N k : Nat), k ≤ 512 → 512 - k < N →
    iter N (F5_b0 1100) (x, (k : Int), 0, false, 0) = some (match fndB (pw0 x) (512 - k) k with
      | some j => .inl (((j % 256 : Nat) : Int), decide (256 ≤ j), 0, [], [], true)
      | none => .inr (x, 0, false, 0))
  | 0, k, _, h => absurd h (Nat.not_lt_zero _)
  | N + 1, k, hk, hN => by
    rcases Nat.lt_or_ge k 512 with hlt | hge
    · have st : F5_b0 1100 (x, (k : Int), 0, false, 0) = bif pw0 x k then some (.inr (.inl (((k % 256 : Nat) : Int), decide (256 ≤ k), 0, [], [], true))) else some (.inl (x, ((k + 1 : Nat) : Int), 0, false, 0)) := by
        unfold F5_b0 pw0; dsimp only
        rw [decide_eq_true (show (k : Int) < 512 by omega), branch_t, md, dge, t18 k hlt, bindO_s, t19 k hlt, bindO_s]
        by_cases h1 : tq k = []
        · rw [decide_eq_true h1]; simp only [Bool.not_true, Bool.false_and, branch_f, bindO_s, cond_false]
          rw [show w64 ((k : Int) + 1) = ((k + 1 : Nat) : Int) from w64_id (by omega) (by omega)]
        · rw [decide_eq_false h1]; simp only [Bool.not_false, Bool.true_and, branch_t]
          by_cases h2 : (hq k).1 < 0
          · rw [decide_eq_true h2, branch_t, bindO_s, Bool.true_and]
            dsimp only
            cases decide (tq k = x)
            · rw [branch_f, cond_false, show w64 ((k : Int) + 1) = ((k + 1 : Nat) : Int) from w64_id (by omega) (by omega)]
            · rfl
          · rw [decide_eq_false h2, branch_f, bindO_s, Bool.false_and]
            dsimp only
            rw [branch_f, cond_false, show w64 ((k : Int) + 1) = ((k + 1 : Nat) : Int) from w64_id (by omega) (by omega)]
      rw [show 512 - k = (512 - (k + 1)) + 1 by omega]
      simp only [fndB]
      cases h : pw0 x k with
      | true => rw [h] at st; simp only [iter, st, cond_true]
      | false =>
        rw [h] at st; simp only [iter, st, cond_false]
        exact F5_one x N (k + 1) hlt (by omega)
    · have : k = 512 := by omega
      subst this
      have st : F5_b0 1100 (x, ((512 : Nat) : Int), 0, false, 0) = some (.inr (.inr (x, 0, false, 0))) := rfl
      simp only [iter, st]
      rfl
theorem comp_nil : comp [] = none := by kernel_rfl
theorem fr_nil : fr [] = none := by unfold fr; rw [comp_nil]; rfl
theorem F5_two (x : By) (hx : x.length ≤ 80) : ∀ (N k : Nat), k ≤ 256 → 256 - k < N →
    iter N (F5_b1 1100) (x, (k : Int), 0, false, 0) = some (match fnd (qq x) (256 - k) k with
      | some (j, e) => .inl ((j : Int), false, 0, hole j, e, true)
      | none => .inr (0, false, 0))
  | 0, k, _, h => absurd h (Nat.not_lt_zero _)
  | N + 1, k, hk, hN => by
    rcases Nat.lt_or_ge k 256 with hlt | hge
    · have w1 : w64 ((k : Int) + 1) = ((k + 1 : Nat) : Int) := w64_id (by omega) (by omega)
      have hb : ((k : Int), false) = (((k % 256 : Nat) : Int), decide (256 ≤ k)) := by
        rw [Nat.mod_eq_of_lt hlt, decide_eq_false (by omega)]
      have st : F5_b1 1100 (x, (k : Int), 0, false, 0) = match qq x k with
          | some e => some (.inr (.inl ((k : Int), false, 0, hole k, e, true)))
          | none => some (.inl (x, ((k + 1 : Nat) : Int), 0, false, 0)) := by
        unfold F5_b1 qq; dsimp only
        rw [decide_eq_true (show (k : Int) < 256 by omega), branch_t, hb, t18 k (by omega), bindO_s, t19 k (by omega), bindO_s]
        by_cases h2 : (hq k).1 < 0
        · rw [decide_eq_true h2]
          simp only [cond_true, branch_t]
          cases decide (tq k = []) <;> simp only [branch_t, branch_f, bindO_s, csO, w1]
        · have h1 : tq k ≠ [] := fun e => h2 (tN k (by omega) e)
          rw [decide_eq_false h1, decide_eq_false h2]
          simp only [branch_f, bindO_s, csO, cond_false]
          obtain ⟨r, r1, r2⟩ := F20_eq k (by omega) h2 x hx
          rw [r1, bindO_s]
          cases hf : fit k x with
          | none =>
            rw [hf] at r2
            have r2 : r.2 = false := r2
            rw [r2]; simp only [Bool.not_false, branch_t, w1, Option.bind_none]
          | some m =>
            rw [hf] at r2
            have r2 : if m = [] then r.2 = false else r = (m, true) := r2
            rw [Option.bind_some]
            by_cases hm : m = []
            · rw [if_pos hm] at r2
              rw [r2, hm, fr_nil]; simp only [Bool.not_false, branch_t, w1]
            · rw [if_neg hm] at r2
              rw [r2]; simp only [Bool.not_true, branch_f]
              rw [F21_eq 1100 (by omega), bindO_s]
              cases fr m with
              | none => simp only [okE, branch_f, w1]
              | some e => simp only [okE, branch_t]; rfl
      rw [show 256 - k = (256 - (k + 1)) + 1 by omega]
      simp only [fnd]
      cases h : qq x k with
      | some e => rw [h] at st; simp only [iter, st]
      | none =>
        rw [h] at st; simp only [iter, st]
        exact F5_two x hx N (k + 1) hlt (by omega)
    · have : k = 256 := by omega
      subst this
      have st : F5_b1 1100 (x, ((256 : Nat) : Int), 0, false, 0) = some (.inr (.inr (0, false, 0))) := rfl
      simp only [iter, st]
      rfl
theorem F5_eq (x : By) : F5 1100 x = some ((out x).1, (out x).2.1, 0, (out x).2.2.1, (out x).2.2.2.1, (out x).2.2.2.2) := by
  unfold F5 out
  by_cases hb : 80 < (x.length : Int)
  · rw [decide_eq_true hb, if_pos hb]; rfl
  rw [decide_eq_false hb, branch_f, if_neg hb]
  have e1 := F5_one x 1100 0 (by omega) (by omega)
  have e2 := F5_two x (by omega) 1100 0 (by omega) (by omega)
  rw [show ((0 : Nat) : Int) = 0 from rfl, show 512 - 0 = 512 from rfl, show fndB (pw0 x) 512 0 = fit0 x from rfl] at e1
  rw [show ((0 : Nat) : Int) = 0 from rfl, show 256 - 0 = 256 from rfl, show fnd (qq x) 256 0 = fit1 x from rfl] at e2
  rw [e1, bindO_s]
  cases fit0 x with
  | some k => rfl
  | none =>
    simp only [csO]
    rw [e2, bindO_s]
    cases fit1 x with
    | some p => rfl
    | none => rfl
end Go.U.Tryz
namespace Go.U.Tryz
open Go Go.U Go.U.Exp
set_option maxRecDepth 20000
def cbN (cb : Bool) : Nat := bif cb then 256 else 0
theorem cb_at (cb : Bool) (j : Nat) (hj : j < 256) : ((j : Int), cb) = ((((cbN cb + j) % 256 : Nat) : Int), decide (256 ≤ cbN cb + j)) := by
  cases cb
  · show ((j : Int), false) = ((((0 + j) % 256 : Nat) : Int), decide (256 ≤ 0 + j))
    rw [Nat.zero_add, Nat.mod_eq_of_lt hj, decide_eq_false (by omega)]
  · show ((j : Int), true) = ((((256 + j) % 256 : Nat) : Int), decide (256 ≤ 256 + j))
    rw [Nat.add_mod_left, Nat.mod_eq_of_lt hj, decide_eq_true (by omega)]
theorem F48_in (x : By) (cb : Bool) (n i : Int) (L : List Bool) (ex : Int × Bool × Int) : ∀ (N j : Nat), j ≤ 256 → 256 - j < N →
    iter N (F48_b1 1100) (x, cb, n, i, (j : Int), L, ex) = some (match fndB (pw0 x) (256 - j) (cbN cb + j) with
      | some k => .inl (((k % 256 : Nat) : Int), decide (256 ≤ k), 0, true)
      | none => .inr (x, n, i, L, ex))
  | 0, k, _, h => absurd h (Nat.not_lt_zero _)
  | N + 1, j, hj, hN => by
    rcases Nat.lt_or_ge j 256 with hlt | hge
    · have hc : cbN cb + j < 512 := by cases cb <;> (unfold cbN; simp; omega)
      have w1 : w64 ((j : Int) + 1) = ((j + 1 : Nat) : Int) := w64_id (by omega) (by omega)
      have hcb := cb_at cb j hlt
      have st : F48_b1 1100 (x, cb, n, i, (j : Int), L, ex) = bif pw0 x (cbN cb + j) then some (.inr (.inl ((j : Int), cb, 0, true))) else some (.inl (x, cb, n, i, ((j + 1 : Nat) : Int), L, ex)) := by
        have h31 : F31 1100 ((j : Int), cb) = some (tq (cbN cb + j)) := by rw [hcb]; exact t31 _ hc
        unfold F48_b1 pw0; dsimp only
        rw [decide_eq_true (show (j : Int) < 256 by omega), branch_t, h31, bindO_s]
        by_cases h1 : tq (cbN cb + j) = []
        · rw [decide_eq_true h1]; simp only [Bool.not_true, Bool.false_and, branch_f, bindO_s, cond_false, w1]
        · rw [decide_eq_false h1]; simp only [Bool.not_false, Bool.true_and, branch_t]
          rw [t32 _ hc]
          by_cases h2 : tq (cbN cb + j) = x
          · rw [decide_eq_true h2, branch_t, bindO_s, bindO_s, tH _ hc, Bool.and_true]
            dsimp only
            cases decide (hole (cbN cb + j) = [])
            · rw [branch_f, cond_false, w1]
            · rfl
          · rw [decide_eq_false h2, branch_f, bindO_s, Bool.and_false]
            dsimp only
            rw [branch_f, cond_false, w1]
      rw [show 256 - j = (256 - (j + 1)) + 1 by omega]
      simp only [fndB]
      cases h : pw0 x (cbN cb + j) with
      | true =>
        rw [h] at st; simp only [iter, st, cond_true]
        have e1 := congrArg Prod.fst hcb
        have e2 := congrArg Prod.snd hcb
        dsimp only at e1 e2
        rw [← e1, ← e2]
      | false =>
        rw [h] at st; simp only [iter, st, cond_false]
        exact F48_in x cb n i L ex N (j + 1) hlt (by omega)
    · have : j = 256 := by omega
      subst this
      have st : F48_b1 1100 (x, cb, n, i, ((256 : Nat) : Int), L, ex) = some (.inr (.inr (x, n, i, L, ex))) := rfl
      simp only [iter, st]
      rfl
theorem F48_eq (x : By) : F48 1100 x = some (match fit0 x with
    | some k => (((k % 256 : Nat) : Int), decide (256 ≤ k), 0, true)
    | none => (0, false, 0, false)) := by
  have a := fun i => F48_in x false 2 i [false, true] (0, false, 0) 1100 0 (by omega) (by omega)
  have b := fun i => F48_in x true 2 i [false, true] (0, false, 0) 1100 0 (by omega) (by omega)
  rw [show ((0 : Nat) : Int) = 0 from rfl, show 256 - 0 = 256 from rfl, show cbN false + 0 = 0 from rfl] at a
  rw [show ((0 : Nat) : Int) = 0 from rfl, show 256 - 0 = 256 from rfl, show cbN true + 0 = 256 from rfl] at b
  have hsum := fndB_add (pw0 x) 256 256 0
  have hf : fit0 x = match fndB (pw0 x) 256 0 with | some j => some j | none => fndB (pw0 x) 256 256 := hsum
  have s0 : F48_b0 1100 (x, 2, 0, [false, true], 0, false, 0) = match fndB (pw0 x) 256 0 with
      | some k => some (.inr (.inl (((k % 256 : Nat) : Int), decide (256 ≤ k), 0, true)))
      | none => some (.inl (x, 2, 1, [false, true], 0, false, 0)) := by
    unfold F48_b0; dsimp only
    show bindO (iter 1100 (F48_b1 1100) (x, false, 2, 0, 0, [false, true], 0, false, 0)) _ = _
    rw [a 0, bindO_s]
    cases fndB (pw0 x) 256 0 <;> rfl
  have s1 : F48_b0 1100 (x, 2, 1, [false, true], 0, false, 0) = match fndB (pw0 x) 256 256 with
      | some k => some (.inr (.inl (((k % 256 : Nat) : Int), decide (256 ≤ k), 0, true)))
      | none => some (.inl (x, 2, 2, [false, true], 0, false, 0)) := by
    unfold F48_b0; dsimp only
    show bindO (iter 1100 (F48_b1 1100) (x, true, 2, 1, 0, [false, true], 0, false, 0)) _ = _
    rw [b 1, bindO_s]
    cases fndB (pw0 x) 256 256 <;> rfl
  have s2 : F48_b0 1100 (x, 2, 2, [false, true], 0, false, 0) = some (.inr (.inr (0, false, 0))) := rfl
  unfold F48
  show bindO (iter (1097 + 1 + 1 + 1) (F48_b0 1100) (x, 2, 0, [false, true], 0, false, 0)) _ = _
  rw [hf]
  cases h0 : fndB (pw0 x) 256 0 with
  | some k => rw [h0] at s0; simp only [iter, s0]; rfl
  | none =>
    rw [h0] at s0
    cases h1 : fndB (pw0 x) 256 256 with
    | some k => rw [h1] at s1; simp only [iter, s0, s1]; rfl
    | none => rw [h1] at s1; simp only [iter, s0, s1, s2]; rfl
theorem out_len (x : By) : (out x).2.2.2.1.length ≤ 30 := by
  unfold out
  split
  · exact Nat.zero_le _
  · split
    · exact Nat.zero_le _
    · split
      · rename_i k e h
        obtain ⟨_, _, h3⟩ := fnd_lt _ _ _ _ _ h
        unfold qq at h3
        cases hd : decide ((hq k).1 < 0) with
        | true => rw [hd] at h3; cases h3
        | false =>
          rw [hd, cond_false] at h3
          obtain ⟨m, _, h4⟩ := Option.bind_eq_some_iff.mp h3
          unfold fr at h4
          obtain ⟨e', h5, h6⟩ := Option.bind_eq_some_iff.mp h4
          have := (comp_ok h5).2.2.1
          cases ha : (nmsOf e').any reg with
          | true => rw [ha] at h6; cases h6
          | false => rw [ha] at h6; cases h6; exact this
      · exact Nat.zero_le _
end Go.U.Tryz
