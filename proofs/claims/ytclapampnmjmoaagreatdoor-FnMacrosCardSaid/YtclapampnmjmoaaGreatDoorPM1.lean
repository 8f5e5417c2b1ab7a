/- A part of the proof. No condition. -/
import Derived.Test.YtclapampnmjmoaaGreatDoorVJg
set_option linter.unusedVariables false
set_option linter.unusedSimpArgs false
set_option linter.unusedSectionVars false
namespace Go.U.Tryz
open Go Go.U
set_option maxRecDepth 100000
def tail4 (K : Nat) (v1 : List UInt8 × List (List UInt8)) : Option Bool :=
   bindO (iter K (F4_b0 K) (v1.1, v1.2, [], 0)) fun v2 =>
   bindO (α := Bool ⊕ ((List UInt8) × (List (List UInt8)) × (List UInt8) × (List UInt8) × List UInt8)) (bindO (α := (List UInt8) × (List (List UInt8)) × Bool × (List UInt8) × (List UInt8) × List UInt8) (bindO (F16 K ([], ([109, 97, 99] : List UInt8), v2.2.2)) fun v3 =>
       branch (!v3)
        (some (v2.1, v2.2.1, true, [], ([109, 97, 99] : List UInt8), v2.2.2))
        (branch (decide (9 < (v2.2.1.length : Int)))
         (some (v2.1, v2.2.1, true, [], ([109, 97, 99] : List UInt8), v2.2.2))
         (bindO (F18 K v2.2.2) fun v4 =>
         bindO (F17 K (v4, v2.2.1)) fun v5 =>
         some (v2.1, v2.2.1, !v5, [], ([109, 97, 99] : List UInt8), v2.2.2)))) fun v6 =>
     branch v6.2.2.1
      (some (.inl true))
      (some (.inr (v6.1, v6.2.1, v6.2.2.2)))) fun v7 =>
   csO v7
    (fun v8 => some v8)
    (fun v9 => bindO (F19 K v9.2.2) fun v10 =>
    bindO (F10 K [([109, 97, 99, 114, 111, 32, 109, 97, 99] : List UInt8), v9.1, ([101, 110, 100, 109] : List UInt8), v10]) fun v11 =>
    bindO (F20 K v9.2.2) fun v12 =>
    bindO (F8 K [([109, 97, 99, 114, 111, 32, 109, 97, 99] : List UInt8), v9.1, ([101, 110, 100, 109] : List UInt8), v12]) fun v13 =>
    bindO (F21 K (v9.1, v9.2.1)) fun v14 =>
    branch (decide (v11.2 = v13.2))
     (bindO (F17 K (v11.1, v13.1)) fun v15 =>
     branch v15
      (branch (!(decide (v11.2 = 0)))
       (some true)
       (bindO (F22 K [v14]) fun v16 =>
       branch (!v16)
        (some true)
        (bindO (F17 K (v11.1, [v14])) fun v17 =>
        some v17)))
      (some false))
     (some false))
theorem F4_tail (K : Nat) (x : List Int) : F4 K x = bindO (F14 K x) fun v0 => branch v0 (some true) (bindO (F15 K x) (tail4 K)) := rfl
def sL : List (List UInt8) := [([] : List UInt8), ([100, 98, 32, 92, 49, 44, 92, 50] : List UInt8), ([108, 100, 32, 92, 51] : List UInt8), ([92, 48, 32, 92] : List UInt8), ([120, 92, 49, 92, 49, 92, 57] : List UInt8)]
def aL : List (List UInt8) := [([97] : List UInt8), ([] : List UInt8), ([49, 43, 50] : List UInt8), ([48, 49, 50, 51, 52, 53, 54, 55, 56, 57, 48, 49, 50, 51, 52, 53, 54, 55, 56, 57, 48, 49, 50, 51, 52, 53, 54, 55, 56, 57, 48, 49, 50, 51, 52, 53, 54, 55, 56, 57] : List UInt8)]
def seqs : Nat → List (List (List UInt8))
  | 0 => [[]]
  | n + 1 => aL.flatMap fun a => (seqs n).map fun l => a :: l
def kk : Nat := 200
def okT (s : List UInt8) (l : List (List UInt8)) : Bool := match tail4 kk (s, l) with | some true => true | _ => false
theorem okT_some {s : List UInt8} {l : List (List UInt8)} (h : okT s l = true) : tail4 kk (s, l) = some true := by
  unfold okT at h
  split at h
  · assumption
  · cases h
theorem mem_seqs : ∀ l : List (List UInt8), (∀ a ∈ l, a ∈ aL) → l ∈ seqs l.length
  | [], _ => List.mem_singleton.2 rfl
  | a :: l, h => List.mem_flatMap.2 ⟨a, h a (List.mem_cons_self ..), List.mem_map.2 ⟨l, mem_seqs l fun b hb => h b (List.mem_cons_of_mem _ hb), rfl⟩⟩
theorem F50_in (K : Nat) (x : List Int) (hx : ∀ v ∈ x, 0 ≤ v ∧ v ≤ 255) (hl : x.length ≤ 2000000) (i : Nat) (hi : i ≤ x.length) : ∃ (v : Int) (j : Nat), F50 K (x, (i : Int)) = some (v, x, (j : Int)) ∧ 0 ≤ v ∧ v ≤ 255 ∧ j ≤ x.length := by
  unfold F50
  dsimp only
  by_cases h : x.length ≤ i
  · rw [decide_eq_true (by omega), branch_t]
    exact ⟨0, i, rfl, by omega, by omega, hi⟩
  · obtain ⟨v, hv⟩ : ∃ v, x[i]? = some v := ⟨_, List.getElem?_eq_getElem (by omega)⟩
    have hb := hx v (List.mem_of_getElem? hv)
    rw [decide_eq_false (by omega), branch_f, w64_id (n := (i : Int) + 1) (by omega) (by omega), show ((i : Int) + 1 - 1) = (i : Int) by omega, w64_id (n := (i : Int)) (by omega) (by omega), nth_s hv, w64_id (n := v) (by omega) (by omega)]
    exact ⟨v, i + 1, rfl, hb.1, hb.2, by omega⟩
theorem F29_in (K : Nat) (n : Nat) (hn : 2 ≤ n ∧ n ≤ 256) (x : List Int) (hx : ∀ v ∈ x, 0 ≤ v ∧ v ≤ 255) (hl : x.length ≤ 2000000) (i : Nat) (hi : i ≤ x.length) : ∃ r j : Nat, F29 K ((n : Int), x, (i : Int)) = some ((r : Int), x, (j : Int)) ∧ r < n ∧ j ≤ x.length := by
  obtain ⟨v, j, h1, h2, h3, h4⟩ := F50_in K x hx hl i hi
  unfold F29
  dsimp only
  rw [decide_eq_false (by omega), branch_f, decide_eq_true (by omega), branch_t, h1, bindO_s, decide_eq_false (show ¬ (n : Int) = 0 by omega)]
  have e : Int.tmod v (n : Int) = ((v.toNat % n : Nat) : Int) := by
    obtain ⟨m, rfl⟩ := Int.eq_ofNat_of_zero_le h2
    rw [Int.toNat_natCast]; rfl
  exact ⟨v.toNat % n, j, by dsimp only; rw [e]; rfl, Nat.mod_lt _ (by omega), h4⟩
theorem nthN_pick {α ρ : Type} {l : List α} {r : Nat} (hr : r < l.length) (k : α → Option ρ) : ∃ a ∈ l, nthN l r k = k a := by
  have h := List.getElem?_eq_getElem hr
  exact ⟨l[r], List.getElem_mem hr, nthN_s h⟩
theorem F15_loop (K : Nat) (s : List UInt8) (x : List Int) (hx : ∀ v ∈ x, 0 ≤ v ∧ v ≤ 255) (hl : x.length ≤ 2000000) : ∀ (n N : Nat) (o : List (List UInt8)) (i : Nat), n < N → n ≤ 3 → o.length + n ≤ 3 → i ≤ x.length → (∀ a ∈ o, a ∈ aL) →
    ∃ o', iter N (F15_b0 K) (s, (n : Int), o, x, (i : Int)) = some (s, o') ∧ o'.length ≤ 3 ∧ ∀ a ∈ o', a ∈ aL
  | _, 0, _, _, h, _, _, _, _ => absurd h (Nat.not_lt_zero _)
  | 0, N + 1, o, i, _, _, ho, _, ha => ⟨o, by simp only [iter, show F15_b0 K (s, ((0 : Nat) : Int), o, x, (i : Int)) = some (.inr (s, o)) from rfl], by omega, ha⟩
  | n + 1, N + 1, o, i, hN, hn, ho, hi, ha => by
    obtain ⟨r, j, h1, h2, h3⟩ := F29_in K 4 (by omega) x hx hl i hi
    have hf : fitN (o.length + 1) 16 = true := by unfold fitN; rw [decide_eq_true_eq]; omega
    obtain ⟨a, ham, hp⟩ := nthN_pick (l := aL) (r := r) h2 fun v1 => guard (fitN (o.length + [v1].length) 16) <| some (.inl (s, w64 (((n + 1 : Nat) : Int) - 1), o ++ [v1], x, (j : Int)) : (List UInt8 × Int × List (List UInt8) × List Int × Int) ⊕ (List UInt8 × List (List UInt8)))
    have st : F15_b0 K (s, ((n + 1 : Nat) : Int), o, x, (i : Int)) = some (.inl (s, (n : Int), o ++ [a], x, (j : Int))) := by
      unfold F15_b0
      dsimp only
      rw [decide_eq_true (show 0 < ((n + 1 : Nat) : Int) by omega), branch_t, show (4 : Int) = ((4 : Nat) : Int) from rfl, h1, bindO_s]
      dsimp only
      rw [guard_dec (by omega)]
      refine hp.trans ?_
      rw [List.length_singleton, hf, guard_t, w64_id (by omega) (by omega), show (((n + 1 : Nat) : Int) - 1) = (n : Int) by omega]
    simp only [iter, st]
    exact F15_loop K s x hx hl n N (o ++ [a]) j (by omega) (by omega) (by simp only [List.length_append, List.length_singleton]; omega) h3 fun b hb => by
      rcases List.mem_append.1 hb with hb | hb
      · exact ha b hb
      · rw [List.mem_singleton.1 hb]; exact ham
theorem F15_in (x : List Int) (hx : ∀ v ∈ x, 0 ≤ v ∧ v ≤ 255) (hl : x.length ≤ 2000000) : ∃ s ∈ sL, ∃ o : List (List UInt8), F15 kk x = some (s, o) ∧ o.length ≤ 3 ∧ ∀ a ∈ o, a ∈ aL := by
  obtain ⟨r, j, h1, h2, h3⟩ := F29_in kk 5 (by omega) x hx hl 0 (Nat.zero_le _)
  obtain ⟨r2, j2, g1, g2, g3⟩ := F29_in kk 4 (by omega) x hx hl j h3
  obtain ⟨s, hs, hp⟩ := nthN_pick (l := sL) (r := r) h2 fun v2 => bindO (F29 kk (4, x, (j : Int))) fun v3 => bindO (iter kk (F15_b0 kk) (v2, v3.1, [], v3.2)) fun v4 => some v4
  obtain ⟨o, k1, k2, k3⟩ := F15_loop kk s x hx hl r2 kk [] j2 (by unfold kk; omega) (by omega) (by simp; omega) g3 (by simp)
  refine ⟨s, hs, o, ?_, k2, k3⟩
  unfold F15
  rw [show F28 kk x = some (x, ((0 : Nat) : Int)) from rfl, bindO_s, show (5 : Int) = ((5 : Nat) : Int) from rfl, h1, bindO_s]
  dsimp only
  rw [guard_dec (by omega)]
  refine hp.trans ?_
  rw [show (4 : Int) = ((4 : Nat) : Int) from rfl, g1, bindO_s]
  dsimp only
  rw [k1, bindO_s]
end Go.U.Tryz
