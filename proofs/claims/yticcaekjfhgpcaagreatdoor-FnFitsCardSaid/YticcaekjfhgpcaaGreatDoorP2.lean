/- A part of the proof. No condition. -/
import Derived.Test.YticcaekjfhgpcaaGreatDoorP1
import Derived.Test.YticcaekjfhgpcaaGreatDoorVHb
set_option linter.unusedVariables false
set_option linter.unusedSimpArgs false
set_option linter.unusedSectionVars false
namespace Go.U.Tryz
open Go Go.U Go.U.Exp
set_option maxRecDepth 20000
abbrev By := List UInt8
abbrev Os := List Nd
theorem all_bytes {p : UInt8 → Bool} (h : ((List.range 256).all fun n => p n.toUInt8) = true) (c : UInt8) : p c = true := by
  have := List.all_eq_true.1 h c.toNat (List.mem_range.2 (UInt8.toNat_lt c))
  have e : c.toNat.toUInt8 = c := UInt8.ofNat_toNat
  rwa [e] at this
theorem F160_eq (K : Nat) (c : UInt8) : F160 K (c.toNat : Int) = some (let_ c) := by
  have h : decide (F160 0 (c.toNat : Int) = some (let_ c)) = true := all_bytes (p := fun c => decide (F160 0 (c.toNat : Int) = some (let_ c))) (by kernel_rfl) c
  exact of_decide_eq_true h
theorem F187_eq (K : Nat) (c : UInt8) : F187 K (c.toNat : Int) = some (97 ≤ c && c ≤ 122) := by
  have h : decide (F187 0 (c.toNat : Int) = some (97 ≤ c && c ≤ 122)) = true := all_bytes (p := fun c => decide (F187 0 (c.toNat : Int) = some (97 ≤ c && c ≤ 122))) (by kernel_rfl) c
  exact of_decide_eq_true h
theorem F188_eq (K : Nat) (c : UInt8) : F188 K (c.toNat : Int) = some (dgt c) := by
  have h : decide (F188 0 (c.toNat : Int) = some (dgt c)) = true := all_bytes (p := fun c => decide (F188 0 (c.toNat : Int) = some (dgt c))) (by kernel_rfl) c
  exact of_decide_eq_true h
theorem F186_eq (K : Nat) (c : UInt8) : F186 K (c.toNat : Int) = some (dig c) := by
  have h : decide (F186 0 (c.toNat : Int) = some (dig c)) = true := all_bytes (p := fun c => decide (F186 0 (c.toNat : Int) = some (dig c))) (by kernel_rfl) c
  exact of_decide_eq_true h
theorem pre_dec (w r : By) : w.isPrefixOf r = decide (r.take w.length = w) := by
  rw [Bool.eq_iff_iff, List.isPrefixOf_iff_prefix, decide_eq_true_eq]
  constructor
  · intro ⟨t, h⟩; rw [← h]; exact List.take_left
  · intro h
    have := List.take_append_drop w.length r
    rw [h] at this
    exact ⟨_, this⟩
def rd (w s : By) (n : Nat) (b : Bool) (o : Os) : Bool × By × Int × Bool × Os :=
  if w.isPrefixOf (s.drop n) = true then (true, s, ((n + w.length : Nat) : Int), b, o) else (false, s, (n : Int), b, o)
theorem F135_eq (K : Nat) (w s : By) (n : Nat) (b : Bool) (o : Os) (hn : n ≤ s.length) (hs : s.length ≤ 1000) (hw : w.length ≤ 100) : F135 K (w, s, (n : Int), b, o) = some (rd w s n b o) := by
  have e1 : w64 ((s.length : Int) - (n : Int)) = (s.length : Int) - (n : Int) := w64_id (by omega) (by omega)
  have e2 : w64 ((n : Int) + (w.length : Int)) = (n : Int) + (w.length : Int) := w64_id (by omega) (by omega)
  have e3 : subL s (n : Int) ((n : Int) + (w.length : Int)) = (s.drop n).take w.length := by
    unfold subL
    rw [Int.toNat_natCast, show ((n : Int) + (w.length : Int)).toNat - n = w.length by omega]
  unfold F135 rd
  dsimp only
  rw [e1, e2, e3, pre_dec]
  by_cases h : (s.length : Int) - (n : Int) < (w.length : Int)
  · rw [decide_eq_true h]
    have : decide ((s.drop n).take w.length = w) = false := decide_eq_false fun e => by
      have := congrArg List.length e
      rw [List.length_take, List.length_drop] at this; omega
    rw [this]; rfl
  · rw [decide_eq_false h, decide_eq_true (show 0 ≤ (n : Int) ∧ (n : Int) ≤ (n : Int) + (w.length : Int) ∧ (n : Int) + (w.length : Int) ≤ (s.length : Int) by omega)]
    cases hd : decide ((s.drop n).take w.length = w) with
    | true =>
      show some (true, s, w64 ((n : Int) + (w.length : Int)), b, o) = _
      rw [e2, if_pos rfl, Int.natCast_add]
    | false => rfl
theorem F143_eq (K : Nat) (r w : By) (hr : r.length ≤ 1000) : F143 K (r, w) = some (w.isPrefixOf r) := by
  unfold F143 F139
  dsimp only
  rw [pre_dec]
  by_cases h : (w.length : Int) ≤ (r.length : Int)
  · rw [decide_eq_true h, decide_eq_true (show 0 ≤ (w.length : Int) ∧ (w.length : Int) ≤ (r.length : Int) by omega)]
    show some (decide (tkL r (w.length : Int) = w)) = _
    unfold tkL; rw [Int.toNat_natCast]
  · rw [decide_eq_false h]
    have : decide (r.take w.length = w) = false := decide_eq_false fun e => by
      have := congrArg List.length e
      rw [List.length_take] at this; omega
    rw [this]; rfl
theorem F116_eq (K : Nat) (w s : By) (n : Nat) (o : Os) (hn : n ≤ s.length) (hs : s.length ≤ 1000) (hw : w.length ≤ 100) : F116 K (w, s, (n : Int), false, o) = some (rd w s n false o) := by
  have e2 : w64 ((n : Int) + (w.length : Int)) = (n : Int) + (w.length : Int) := w64_id (by omega) (by omega)
  unfold F116 rd
  dsimp only
  have e3 : dpL s (n : Int) = s.drop n := by unfold dpL; rw [Int.toNat_natCast]
  rw [branch_f, decide_eq_true (show 0 ≤ (n : Int) ∧ (n : Int) ≤ (s.length : Int) by omega), guard_t, e3, F143_eq K _ w (by rw [List.length_drop]; omega)]
  cases hd : w.isPrefixOf (s.drop n) with
  | true =>
    show some (true, s, w64 ((n : Int) + (w.length : Int)), false, o) = _
    rw [e2, if_pos rfl, Int.natCast_add]
  | false => rfl
theorem F116_bad (K : Nat) (w s : By) (n : Int) (o : Os) : F116 K (w, s, n, true, o) = some (false, s, n, true, o) := rfl
theorem F136_step (K : Nat) (f : Int) (s : By) (n : Nat) (b : Bool) (o : Os) (c : UInt8) (hc : s[n]? = some c) (hs : s.length ≤ 1000) :
    F136_b0 K (f, s, (n : Int), b, o) = some (cond (isW c) (.inl (f, s, ((n + 1 : Nat) : Int), b, o)) (.inr (f, s, (n : Int), b, o))) := by
  have hlt : n < s.length := (List.getElem?_eq_some_iff.1 hc).1
  have e2 : w64 ((n : Int) + 1) = ((n + 1 : Nat) : Int) := by rw [w64_id (by omega) (by omega)]; omega
  unfold F136_b0
  dsimp only
  rw [decide_eq_true (show (n : Int) < (s.length : Int) by omega), branch_t]
  simp only [nth_s hc]
  rw [F160_eq, e2.symm]
  have h48 : decide (48 ≤ (c.toNat : Int)) = decide (48 ≤ c) := by rw [Bool.eq_iff_iff, decide_eq_true_eq, decide_eq_true_eq, UInt8.le_iff_toNat_le]; exact Int.ofNat_le
  have h57 : decide ((c.toNat : Int) ≤ 57) = decide (c ≤ 57) := by rw [Bool.eq_iff_iff, decide_eq_true_eq, decide_eq_true_eq, UInt8.le_iff_toNat_le]; exact Int.ofNat_le
  have h65 : decide (65 ≤ (c.toNat : Int)) = decide (65 ≤ c) := by rw [Bool.eq_iff_iff, decide_eq_true_eq, decide_eq_true_eq, UInt8.le_iff_toNat_le]; exact Int.ofNat_le
  have h70 : decide ((c.toNat : Int) ≤ 70) = decide (c ≤ 70) := by rw [Bool.eq_iff_iff, decide_eq_true_eq, decide_eq_true_eq, UInt8.le_iff_toNat_le]; exact Int.ofNat_le
  rw [h48, h57, h65, h70]
  have key : isW c = (let_ c || (decide (48 ≤ c) && decide (c ≤ 57)) || (decide (65 ≤ c) && decide (c ≤ 70))) := by
    have := all_bytes (p := fun c => isW c == (let_ c || (decide (48 ≤ c) && decide (c ≤ 57)) || (decide (65 ≤ c) && decide (c ≤ 70)))) (by kernel_rfl) c
    exact eq_of_beq this
  rw [key]
  cases let_ c <;> cases decide (48 ≤ c) <;> cases decide (c ≤ 57) <;> cases decide (65 ≤ c) <;> cases decide (c ≤ 70) <;> rfl
theorem F162_step (K : Nat) (f : Int) (s : By) (n : Nat) (b : Bool) (o : Os) (c : UInt8) (hc : s[n]? = some c) (hs : s.length ≤ 1000) :
    F162_b0 K (f, s, (n : Int), b, o) = some (cond (isW c) (.inl (f, s, ((n + 1 : Nat) : Int), b, o)) (.inr (f, s, (n : Int), b, o))) := by
  have hlt : n < s.length := (List.getElem?_eq_some_iff.1 hc).1
  have e2 : w64 ((n : Int) + 1) = ((n + 1 : Nat) : Int) := by rw [w64_id (by omega) (by omega)]; omega
  unfold F162_b0
  dsimp only
  rw [decide_eq_true (show (n : Int) < (s.length : Int) by omega), branch_t]
  simp only [nth_s hc]
  rw [F187_eq, F188_eq, e2.symm]
  have h95 : decide ((c.toNat : Int) = 95) = (c == 95) := by
    have := all_bytes (p := fun c => decide ((c.toNat : Int) = 95) == (c == 95)) (by kernel_rfl) c
    exact eq_of_beq this
  have h46 : decide ((c.toNat : Int) = 46) = (c == 46) := by
    have := all_bytes (p := fun c => decide ((c.toNat : Int) = 46) == (c == 46)) (by kernel_rfl) c
    exact eq_of_beq this
  have h65 : decide (65 ≤ (c.toNat : Int)) = decide (65 ≤ c) := by rw [Bool.eq_iff_iff, decide_eq_true_eq, decide_eq_true_eq, UInt8.le_iff_toNat_le]; exact Int.ofNat_le
  have h70 : decide ((c.toNat : Int) ≤ 70) = decide (c ≤ 70) := by rw [Bool.eq_iff_iff, decide_eq_true_eq, decide_eq_true_eq, UInt8.le_iff_toNat_le]; exact Int.ofNat_le
  rw [h95, h46, h65, h70]
  have key : isW c = ((decide (97 ≤ c) && decide (c ≤ 122)) || dgt c || (c == 95) || (c == 46) || (decide (65 ≤ c) && decide (c ≤ 70))) := rfl
  rw [key]
  cases (decide (97 ≤ c) && decide (c ≤ 122)) <;> cases dgt c <;> cases (c == 95) <;> cases (c == 46) <;> cases decide (65 ≤ c) <;> cases decide (c ≤ 70) <;> rfl
theorem run_loop {f : Int × By × Int × Bool × Os → Option ((Int × By × Int × Bool × Os) ⊕ (Int × By × Int × Bool × Os))} (g : Int) (s : By) (b : Bool) (o : Os)
    (hstep : ∀ (n : Nat) (c : UInt8), s[n]? = some c → f (g, s, (n : Int), b, o) = some (cond (isW c) (.inl (g, s, ((n + 1 : Nat) : Int), b, o)) (.inr (g, s, (n : Int), b, o))))
    (hend : f (g, s, (s.length : Int), b, o) = some (.inr (g, s, (s.length : Int), b, o))) :
    ∀ (K n : Nat), n ≤ s.length → s.length - n < K → iter K f (g, s, (n : Int), b, o) = some (g, s, ((n + ((s.drop n).takeWhile isW).length : Nat) : Int), b, o)
  | 0, n, h, hK => absurd hK (Nat.not_lt_zero _)
  | K + 1, n, h, hK => by
    rcases Nat.lt_or_ge n s.length with hlt | hge
    · have hv := List.getElem?_eq_getElem hlt
      rw [List.drop_eq_getElem_cons hlt, List.takeWhile_cons]
      cases hw : isW s[n] with
      | true =>
        rw [if_pos rfl, List.length_cons]
        have := run_loop g s b o hstep hend K (n + 1) hlt (by omega)
        rw [show n + (((s.drop (n + 1)).takeWhile isW).length + 1) = n + 1 + ((s.drop (n + 1)).takeWhile isW).length by omega, ← this]
        simp only [iter, hstep n _ hv, hw, cond]
      | false =>
        simp only [iter, hstep n _ hv, hw, cond]
        rfl
    · have : n = s.length := by omega
      subst this
      simp only [iter, hend, List.drop_length]
      rfl
theorem drop_tw (s : By) (n : Nat) : (s.drop n).take ((s.drop n).takeWhile isW).length = (s.drop n).takeWhile isW := by
  have h := List.takeWhile_append_dropWhile (p := isW) (l := s.drop n)
  conv => lhs; rw [← h]
  rw [List.takeWhile_append_dropWhile]
  have : (s.drop n).take ((s.drop n).takeWhile isW).length = ((s.drop n).takeWhile isW ++ (s.drop n).dropWhile isW).take ((s.drop n).takeWhile isW).length := by rw [h]
  rw [this, List.take_left]
theorem tw_len (r : By) : (r.takeWhile isW).length ≤ r.length := by
  have h := congrArg List.length (List.takeWhile_append_dropWhile (p := isW) (l := r))
  rw [List.length_append] at h; omega
theorem dw_drop (r : By) : r.dropWhile isW = r.drop (r.takeWhile isW).length := by
  have h := List.takeWhile_append_dropWhile (p := isW) (l := r)
  conv => rhs; lhs; rw [← h]
  rw [List.takeWhile_append_dropWhile]
  have : r.drop (r.takeWhile isW).length = (r.takeWhile isW ++ r.dropWhile isW).drop (r.takeWhile isW).length := by rw [h]
  rw [this, List.drop_left]
theorem F136_eq (K : Nat) (s : By) (n : Nat) (b : Bool) (o : Os) (hn : n ≤ s.length) (hs : s.length ≤ 1000) (hK : 1000 < K) :
    F136 K (s, (n : Int), b, o) = some ((s.drop n).takeWhile isW, s, ((n + ((s.drop n).takeWhile isW).length : Nat) : Int), b, o) := by
  have hl := tw_len (s.drop n)
  rw [List.length_drop] at hl
  unfold F136
  dsimp only
  rw [run_loop (n : Int) s b o (fun n c hc => F136_step K _ s n b o c hc hs) (by
    unfold F136_b0; dsimp only; rw [decide_eq_false (by omega)]; rfl) K n hn (by omega)]
  simp only [bindO_s]
  rw [decide_eq_true (by omega), guard_t]
  unfold subL
  rw [Int.toNat_natCast, Int.toNat_natCast, show n + ((s.drop n).takeWhile isW).length - n = ((s.drop n).takeWhile isW).length by omega, drop_tw]
theorem F162_eq (K : Nat) (s : By) (n : Nat) (b : Bool) (o : Os) (hn : n ≤ s.length) (hs : s.length ≤ 1000) (hK : 1000 < K) :
    F162 K (s, (n : Int), b, o) = some ((s.drop n).takeWhile isW, s, ((n + ((s.drop n).takeWhile isW).length : Nat) : Int), b, o) := by
  have hl := tw_len (s.drop n)
  rw [List.length_drop] at hl
  unfold F162
  dsimp only
  rw [run_loop (n : Int) s b o (fun n c hc => F162_step K _ s n b o c hc hs) (by
    unfold F162_b0; dsimp only; rw [decide_eq_false (by omega)]; rfl) K n hn (by omega)]
  simp only [bindO_s]
  rw [decide_eq_true (by omega), guard_t]
  unfold subL
  rw [Int.toNat_natCast, Int.toNat_natCast, show n + ((s.drop n).takeWhile isW).length - n = ((s.drop n).takeWhile isW).length by omega, drop_tw]
end Go.U.Tryz
namespace Go.U.Tryz
open Go Go.U Go.U.Exp
set_option maxRecDepth 20000
def wd : Nat → By
  | 0 => [43] | 1 => [45] | 2 => [42] | 3 => [47] | 4 => [37] | 5 => [38] | 6 => [94] | 7 => [124] | 8 => [60, 60] | _ => [62, 62]
def opJ : Nat → By → Int
  | 0, _ => 0
  | j + 1, r => if (wd j).isPrefixOf r = true then 8 + (j : Int) else opJ j r
def wds : List By := [[], [], [], [], [110, 101, 103], [110, 111, 116], [104, 105, 103, 104], [108, 111, 119], [43], [45], [42], [47], [37], [38], [94], [124], [60, 60], [62, 62]]
theorem wds_at (j : Nat) (hj : j < 10) : wds[8 + j]? = some (wd j) := by
  match j, hj with
  | 0, _ | 1, _ | 2, _ | 3, _ | 4, _ | 5, _ | 6, _ | 7, _ | 8, _ | 9, _ => rfl
theorem wd_len (j : Nat) : (wd j).length ≤ 2 := by
  unfold wd; split <;> decide
theorem F105_step (K j : Nat) (hj : j < 10) (s : By) (n : Nat) (b : Bool) (o : Os) (hn : n ≤ s.length) (hs : s.length ≤ 1000) :
    F105_b0 K (wds, 8 + (j : Int), s, (n : Int), b, o) = some (if (wd j).isPrefixOf (s.drop n) = true then .inr (.inl (8 + (j : Int), s, (n : Int), b, o)) else .inl (wds, 7 + (j : Int), s, (n : Int), b, o)) := by
  have hl := wd_len j
  have e0 : w64 (8 + (j : Int) - 1) = 7 + (j : Int) := by rw [w64_id (by omega) (by omega)]; omega
  have e1 : w64 ((s.length : Int) - (n : Int)) = (s.length : Int) - (n : Int) := w64_id (by omega) (by omega)
  have e2 : w64 ((n : Int) + ((wd j).length : Int)) = (n : Int) + ((wd j).length : Int) := w64_id (by omega) (by omega)
  have e3 : subL s (n : Int) ((n : Int) + ((wd j).length : Int)) = (s.drop n).take (wd j).length := by
    unfold subL
    rw [Int.toNat_natCast, show ((n : Int) + ((wd j).length : Int)).toNat - n = (wd j).length by omega]
  have hw : wds[(8 + (j : Int)).toNat]? = some (wd j) := by rw [show (8 + (j : Int)).toNat = 8 + j by omega]; exact wds_at j hj
  unfold F105_b0
  dsimp only
  rw [decide_eq_true (show 8 ≤ 8 + (j : Int) by omega), branch_t, nth_z (by omega) hw, nth_z (by omega) hw, e1, e2, e3, ← e0, pre_dec]
  by_cases h : ((wd j).length : Int) ≤ (s.length : Int) - (n : Int)
  · rw [decide_eq_true h, branch_t, decide_eq_true (show 0 ≤ (n : Int) ∧ (n : Int) ≤ (n : Int) + ((wd j).length : Int) ∧ (n : Int) + ((wd j).length : Int) ≤ (s.length : Int) by omega), guard_t]
    cases decide ((s.drop n).take (wd j).length = wd j) <;> rfl
  · rw [decide_eq_false h, branch_f]
    have : decide ((s.drop n).take (wd j).length = wd j) = false := decide_eq_false fun e => by
      have := congrArg List.length e
      rw [List.length_take, List.length_drop] at this; omega
    rw [this]; rfl
theorem F105_loop (K : Nat) (s : By) (n : Nat) (b : Bool) (o : Os) (hn : n ≤ s.length) (hs : s.length ≤ 1000) : ∀ (j N : Nat), j ≤ 10 → j < N →
    iter N (F105_b0 K) (wds, 7 + (j : Int), s, (n : Int), b, o) = some (if opJ j (s.drop n) = 0 then .inr (s, (n : Int), b, o) else .inl (opJ j (s.drop n), s, (n : Int), b, o))
  | _, 0, _, h => absurd h (Nat.not_lt_zero _)
  | 0, N + 1, _, _ => rfl
  | j + 1, N + 1, hj, hN => by
    have h := F105_step K j (by omega) s n b o hn hs
    rw [show 7 + ((j + 1 : Nat) : Int) = 8 + (j : Int) by omega]
    have ih := F105_loop K s n b o hn hs j N (by omega) (by omega)
    by_cases hp : (wd j).isPrefixOf (s.drop n) = true
    · rw [if_pos hp] at h
      simp only [iter, h, opJ, if_pos hp]
      rw [if_neg (by omega)]
    · rw [if_neg hp] at h
      simp only [iter, h, opJ, if_neg hp]
      exact ih
theorem F105_eq (K : Nat) (hK : 20 < K) (s : By) (n : Nat) (b : Bool) (o : Os) (hn : n ≤ s.length) (hs : s.length ≤ 1000) :
    F105 K (s, (n : Int), b, o) = some (opJ 10 (s.drop n), s, (n : Int), b, o) := by
  have h := F105_loop K s n b o hn hs 10 K (Nat.le_refl _) (by omega)
  unfold F105
  show bindO (iter K (F105_b0 K) (wds, 7 + ((10 : Nat) : Int), s, (n : Int), b, o)) _ = _
  rw [h]
  by_cases h0 : opJ 10 (s.drop n) = 0
  · rw [if_pos h0, h0]; rfl
  · rw [if_neg h0]; rfl
theorem opJ_at (r : By) : match opAt r with
    | none => opJ 10 r = 0
    | some (k, l, r1) => opJ 10 r = k ∧ (∀ K, F106 K k = some (l : Int)) ∧ ∃ w, wds[k.toNat]? = some w ∧ w.length ≤ 2 ∧ w.length ≤ r.length ∧ r1 = r.drop w.length := by
  have one : ∀ (c a : UInt8) (t : By), ([c] : By).isPrefixOf (a :: t) = (c == a) := fun c a t => by
    show (c == a && List.isPrefixOf [] t) = _
    cases t <;> simp [List.isPrefixOf]
  have two : ∀ (c d a e : UInt8) (t : By), ([c, d] : By).isPrefixOf (a :: e :: t) = (c == a && d == e) := fun c d a e t => by
    show (c == a && (d == e && List.isPrefixOf [] t)) = _
    cases t <;> simp [List.isPrefixOf]
  have two' : ∀ (c d a : UInt8), ([c, d] : By).isPrefixOf [a] = false := fun c d a => by
    show (c == a && false) = false; simp
  have sy : ∀ (c a : UInt8), (c == a) = decide (a = c) := fun c a => by
    rw [Bool.eq_iff_iff, beq_iff_eq, decide_eq_true_eq]; exact ⟨Eq.symm, Eq.symm⟩
  cases r with
  | nil => rfl
  | cons a r =>
    unfold opAt
    dsimp only
    have J : opJ 10 (a :: r) = if [62, 62].isPrefixOf (a :: r) = true then 17 else if [60, 60].isPrefixOf (a :: r) = true then 16 else if a = 124 then 15 else if a = 94 then 14 else if a = 38 then 13 else if a = 37 then 12 else if a = 47 then 11 else if a = 42 then 10 else if a = 45 then 9 else if a = 43 then 8 else 0 := by
      simp only [opJ, wd, one, sy, decide_eq_true_eq]; rfl
    rw [J]
    have P : ∀ c : UInt8, a ≠ c → ([c, c] : By).isPrefixOf (a :: r) = false := fun c h => by
      show (c == a && _) = false; rw [sy, decide_eq_false h]; rfl
    by_cases h0 : a = 43
    · subst h0; rw [P 62 (by decide), P 60 (by decide)]; exact ⟨rfl, fun K => rfl, [43], rfl, by decide, by simp, rfl⟩
    by_cases h1 : a = 45
    · subst h1; rw [P 62 (by decide), P 60 (by decide)]; exact ⟨rfl, fun K => rfl, [45], rfl, by decide, by simp, rfl⟩
    by_cases h2 : a = 42
    · subst h2; rw [P 62 (by decide), P 60 (by decide)]; exact ⟨rfl, fun K => rfl, [42], rfl, by decide, by simp, rfl⟩
    by_cases h3 : a = 47
    · subst h3; rw [P 62 (by decide), P 60 (by decide)]; exact ⟨rfl, fun K => rfl, [47], rfl, by decide, by simp, rfl⟩
    by_cases h4 : a = 37
    · subst h4; rw [P 62 (by decide), P 60 (by decide)]; exact ⟨rfl, fun K => rfl, [37], rfl, by decide, by simp, rfl⟩
    by_cases h5 : a = 38
    · subst h5; rw [P 62 (by decide), P 60 (by decide)]; exact ⟨rfl, fun K => rfl, [38], rfl, by decide, by simp, rfl⟩
    by_cases h6 : a = 94
    · subst h6; rw [P 62 (by decide), P 60 (by decide)]; exact ⟨rfl, fun K => rfl, [94], rfl, by decide, by simp, rfl⟩
    by_cases h7 : a = 124
    · subst h7; rw [P 62 (by decide), P 60 (by decide)]; exact ⟨rfl, fun K => rfl, [124], rfl, by decide, by simp, rfl⟩
    rw [if_neg h0, if_neg h1, if_neg h2, if_neg h3, if_neg h4, if_neg h5, if_neg h6, if_neg h7, if_neg h0, if_neg h1, if_neg h2, if_neg h3, if_neg h4, if_neg h5, if_neg h6, if_neg h7]
    cases r with
    | nil => rw [two', two']; rfl
    | cons e r =>
      rw [two, two, sy, sy, sy, sy]
      by_cases h8 : a = 60 ∧ e = 60
      · obtain ⟨rfl, rfl⟩ := h8; exact ⟨rfl, fun K => rfl, [60, 60], rfl, by decide, by simp, rfl⟩
      by_cases h9 : a = 62 ∧ e = 62
      · obtain ⟨rfl, rfl⟩ := h9; exact ⟨rfl, fun K => rfl, [62, 62], rfl, by decide, by simp, rfl⟩
      dsimp only
      rw [if_neg h8, if_neg h9]
      have q8 : (decide (a = 60) && decide (e = 60)) = false := by rw [← Bool.decide_and]; exact decide_eq_false h8
      have q9 : (decide (a = 62) && decide (e = 62)) = false := by rw [← Bool.decide_and]; exact decide_eq_false h9
      rw [q8, q9]; rfl
theorem fit_ok {n : Nat} (h : n ≤ 5000) : fitN n 32 = true := by
  unfold fitN
  simp only [maxSum, Bool.and_eq_true, decide_eq_true_eq]
  omega
theorem F108_eq (K : Nat) (k n : Int) (w s : By) (m : Int) (b : Bool) (o : Os) (ho : o.length ≤ 30) :
    F108 K (k, n, w, s, m, b, o) = some (if o.length < 30 then (s, m, b, o ++ [(k, n, w)]) else (s, m, true, o)) := by
  unfold F108
  dsimp only
  by_cases h : o.length < 30
  · rw [decide_eq_false (by omega), branch_f, fit_ok (by simp only [List.length_singleton]; omega), if_pos h]; rfl
  · rw [decide_eq_true (by omega), if_neg h]; rfl
theorem F118_eq (K : Nat) (k n : Int) (w s : By) (m : Int) (b : Bool) (o : Os) (ho : o.length ≤ 3000) :
    F118 K (k, n, w, s, m, b, o) = some (s, m, b || decide (30 ≤ o.length), o ++ [(k, n, w)]) := by
  unfold F118
  dsimp only
  rw [fit_ok (by simp only [List.length_singleton]; omega), guard_t]
  cases b with
  | true => rfl
  | false =>
    have : decide (30 < ((o ++ [(k, n, w)]).length : Int)) = decide (30 ≤ o.length) := by
      rw [Bool.eq_iff_iff, decide_eq_true_eq, decide_eq_true_eq, List.length_append, List.length_singleton]; omega
    rw [branch_f, Bool.false_or, this]
theorem F137_eq (K : Nat) (w : By) (hK : 1000 < K) : F137 K w = some (nm w) := by
  unfold F137 nm
  by_cases h1 : (w.length : Int) < 1
  · rw [decide_eq_true h1, decide_eq_false (show ¬ (1 ≤ w.length ∧ w.length ≤ 16) by omega)]; rfl
  rw [decide_eq_false h1, branch_f]
  by_cases h2 : 16 < (w.length : Int)
  · rw [decide_eq_true h2, decide_eq_false (show ¬ (1 ≤ w.length ∧ w.length ≤ 16) by omega)]; rfl
  rw [decide_eq_false h2, branch_f, decide_eq_true (show 1 ≤ w.length ∧ w.length ≤ 16 by omega), Bool.true_and]
  cases hw : w with
  | nil => rw [hw] at h1; exact absurd (by decide) h1
  | cons c r =>
    rw [← hw]
    have h0 : w[(0 : Int).toNat]? = some c := by rw [hw]; rfl
    have hm : hd1 w = let_ c := by rw [hw]; rfl
    rw [nth_z (by omega) h0, F160_eq, hm]
    simp only [bindO_s]
    cases hl : let_ c with
    | false => rfl
    | true =>
      simp only [Bool.not_true, branch_f, bindO_s, csO_r, Bool.true_and]
      have := loop_all (f := F137_b0 K) (fun i => (w, (i : Int))) w (fun c => let_ c || dgt c) (.inl false) (.inr ()) (fun i v hv hi => by
        have e2 : w64 ((i : Int) + 1) = ((i + 1 : Nat) : Int) := by rw [w64_id (by omega) (by omega)]; omega
        unfold F137_b0
        dsimp only
        rw [decide_eq_true (show (i : Int) < (w.length : Int) by omega), branch_t]
        simp only [nth_s hv]
        rw [F160_eq]
        have h48 : decide (48 ≤ (v.toNat : Int)) = decide (48 ≤ v) := by rw [Bool.eq_iff_iff, decide_eq_true_eq, decide_eq_true_eq, UInt8.le_iff_toNat_le]; exact Int.ofNat_le
        have h57 : decide ((v.toNat : Int) ≤ 57) = decide (v ≤ 57) := by rw [Bool.eq_iff_iff, decide_eq_true_eq, decide_eq_true_eq, UInt8.le_iff_toNat_le]; exact Int.ofNat_le
        rw [h48, h57, show dgt v = (decide (48 ≤ v) && decide (v ≤ 57)) from rfl, ← e2]
        cases let_ v <;> cases decide (48 ≤ v) <;> cases decide (v ≤ 57) <;> rfl) (by
        unfold F137_b0; dsimp only; rw [decide_eq_false (by omega)]; rfl) K (by omega)
      rw [show ((0 : Nat) : Int) = 0 from rfl] at this
      rw [this]
      cases w.all fun c => let_ c || dgt c <;> rfl
theorem F91_eq (K : Nat) (n a b : Int) : F91 K (n, a, b) = some (decide (a ≤ n) && decide (n ≤ b)) := by
  unfold F91
  dsimp only
  cases decide (a ≤ n) <;> rfl
theorem name_same (c : UInt8) : ((97 ≤ c && c ≤ 122) || dgt c || c == 95 || c == 46) = (let_ c || dgt c) := by
  have := all_bytes (p := fun c => ((97 ≤ c && c ≤ 122) || dgt c || c == 95 || c == 46) == (let_ c || dgt c)) (by kernel_rfl) c
  exact eq_of_beq this
theorem let_dgt (c : UInt8) (h : (let_ c || dgt c) = true) : let_ c = !dgt c := by
  have := all_bytes (p := fun c => !(let_ c || dgt c) || (let_ c == !dgt c)) (by kernel_rfl) c
  rw [h] at this
  exact eq_of_beq this
theorem F164_eq (K : Nat) (w : By) (hK : 1000 < K) : F164 K w = some (nm w) := by
  unfold F164 nm
  rw [F91_eq]
  simp only [bindO_s]
  by_cases h1 : 1 ≤ w.length ∧ w.length ≤ 16
  · rw [decide_eq_true (show 1 ≤ (w.length : Int) by omega), decide_eq_true (show (w.length : Int) ≤ 16 by omega), decide_eq_true h1]
    simp only [Bool.and_true, Bool.not_true, branch_f, Bool.true_and]
    cases hw : w with
    | nil => rw [hw] at h1; exact absurd h1.1 (by decide)
    | cons c r =>
      rw [← hw]
      have h0 : w[(0 : Int).toNat]? = some c := by rw [hw]; rfl
      have hm : hd1 w = let_ c := by rw [hw]; rfl
      rw [nth_z (by omega) h0, F188_eq, hm]
      simp only [bindO_s]
      have lp := loop_all (f := F164_b0 K) (fun i => (w, (w.length : Int), (i : Int))) w (fun c => let_ c || dgt c) (.inl false) (.inr ()) (fun i v hv hi => by
        have e2 : w64 ((i : Int) + 1) = ((i + 1 : Nat) : Int) := by rw [w64_id (by omega) (by omega)]; omega
        unfold F164_b0
        dsimp only
        rw [decide_eq_true (show (i : Int) < (w.length : Int) by omega), branch_t]
        simp only [nth_s hv]
        have h95 : decide ((v.toNat : Int) = 95) = (v == 95) := by
          have := all_bytes (p := fun c => decide ((c.toNat : Int) = 95) == (c == 95)) (by kernel_rfl) v
          exact eq_of_beq this
        have h46 : decide ((v.toNat : Int) = 46) = (v == 46) := by
          have := all_bytes (p := fun c => decide ((c.toNat : Int) = 46) == (c == 46)) (by kernel_rfl) v
          exact eq_of_beq this
        rw [F187_eq, F188_eq, h95, h46, ← e2, ← name_same v]
        cases (decide (97 ≤ v) && decide (v ≤ 122)) <;> cases dgt v <;> cases (v == 95) <;> cases (v == 46) <;> rfl) (by
        unfold F164_b0; dsimp only; rw [decide_eq_false (by omega)]; rfl) K (by omega)
      rw [show ((0 : Nat) : Int) = 0 from rfl] at lp
      cases hd : dgt c with
      | true =>
        have : let_ c = false := by
          have := all_bytes (p := fun c => !(dgt c) || !(let_ c)) (by kernel_rfl) c
          rw [hd] at this
          simpa using this
        rw [this]; rfl
      | false =>
        simp only [branch_f, bindO_s, csO_r]
        rw [lp]
        cases ha : w.all fun c => let_ c || dgt c with
        | false =>
          cases let_ c <;> rfl
        | true =>
          have hc : (let_ c || dgt c) = true := by
            rw [hw, List.all_cons, Bool.and_eq_true] at ha; exact ha.1
          rw [let_dgt c hc, hd]; rfl
  · rw [decide_eq_false h1, ← Bool.decide_and, decide_eq_false (show ¬ (1 ≤ (w.length : Int) ∧ (w.length : Int) ≤ 16) by omega)]; rfl
end Go.U.Tryz
namespace Go.U.Tryz
open Go Go.U Go.U.Exp
set_option maxRecDepth 20000
theorem dig_le (c : UInt8) : dig c ≤ 99 := by
  have := all_bytes (p := fun c => decide (dig c ≤ 99)) (by kernel_rfl) c
  exact of_decide_eq_true this
theorem F161_step (K : Nat) (r : By) (b n : Int) (i : Nat) (c : UInt8) (hc : r[i]? = some c) (hr : r.length ≤ 1000) (hb : 0 ≤ b ∧ b ≤ 16) (hn : 0 ≤ n ∧ n ≤ 65535) :
    F161_b0 K (r, b, n, (i : Int)) = some (if b ≤ dig c then .inr (.inl (0, false)) else if 65535 < n * b + dig c then .inr (.inl (0, false)) else .inl (r, b, n * b + dig c, ((i + 1 : Nat) : Int))) := by
  have hi : i < r.length := (List.getElem?_eq_some_iff.1 hc).1
  have h0 := dig_nonneg c
  have h9 := dig_le c
  have m0 : 0 ≤ n * b := Int.mul_nonneg hn.1 hb.1
  have m1 : n * b ≤ 65535 * 16 := Int.mul_le_mul hn.2 hb.2 hb.1 (by omega)
  have e1 : w64 (n * b) = n * b := w64_id (by omega) (by omega)
  have e2 : w64 (n * b + dig c) = n * b + dig c := w64_id (by omega) (by omega)
  have e3 : w64 ((i : Int) + 1) = ((i + 1 : Nat) : Int) := by rw [w64_id (by omega) (by omega)]; omega
  unfold F161_b0
  dsimp only
  rw [decide_eq_true (show (i : Int) < (r.length : Int) by omega), branch_t, nth_s hc, F186_eq]
  simp only [bindO_s]
  rw [e1, e2, e3]
  by_cases h : b ≤ dig c
  · rw [decide_eq_true h, if_pos h]; rfl
  · rw [decide_eq_false h, if_neg h, branch_f]
    by_cases h2 : 65535 < n * b + dig c
    · rw [decide_eq_true h2, if_pos h2]; rfl
    · rw [decide_eq_false h2, if_neg h2]; rfl
theorem F161_loop (K : Nat) (r : By) (b : Int) (hr : r.length ≤ 1000) (hb : 0 ≤ b ∧ b ≤ 16) : ∀ (N i : Nat) (n : Int), 0 ≤ n ∧ n ≤ 65535 → i ≤ r.length → r.length - i < N →
    iter N (F161_b0 K) (r, b, n, (i : Int)) = some (match base b (r.drop i) n with | some m => .inr (r, m) | none => .inl (0, false))
  | 0, i, n, _, _, h => absurd h (Nat.not_lt_zero _)
  | N + 1, i, n, hn, hi, hN => by
    rcases Nat.lt_or_ge i r.length with hlt | hge
    · have hv := List.getElem?_eq_getElem hlt
      have hs := F161_step K r b n i _ hv hr hb hn
      rw [List.drop_eq_getElem_cons hlt]
      unfold base
      by_cases h : b ≤ dig r[i]
      · rw [if_pos h] at hs ⊢
        simp only [iter, hs]
      · rw [if_neg h] at hs ⊢
        by_cases h2 : 65535 < n * b + dig r[i]
        · rw [if_pos h2] at hs ⊢
          simp only [iter, hs]
        · rw [if_neg h2] at hs ⊢
          simp only [iter, hs]
          exact F161_loop K r b hr hb N (i + 1) _ ⟨Int.add_nonneg (Int.mul_nonneg hn.1 hb.1) (dig_nonneg _), by omega⟩ hlt (by omega)
    · have : i = r.length := by omega
      subst this
      rw [List.drop_length]
      have : F161_b0 K (r, b, n, (r.length : Int)) = some (.inr (.inr (r, n))) := by
        unfold F161_b0; dsimp only; rw [decide_eq_false (by omega)]; rfl
      simp only [iter, this, base]
def okP (o : Option Int) : Int × Bool := match o with | some n => (n, true) | none => (0, false)
theorem F161_eq (K : Nat) (r : By) (b : Int) (hr : r.length ≤ 1000) (hb : 0 ≤ b ∧ b ≤ 16) (hK : 1000 < K) : F161 K (r, b) = some (okP (if r = [] then none else base b r 0)) := by
  unfold F161
  dsimp only
  have h := F161_loop K r b hr hb K 0 0 (by omega) (Nat.zero_le _) (by omega)
  rw [show ((0 : Nat) : Int) = 0 from rfl, List.drop_zero] at h
  rw [h]
  by_cases hr0 : r = []
  · subst hr0; rfl
  · rw [if_neg hr0]
    cases base b r 0 with
    | none => rfl
    | some m =>
      show some (m, !decide (r = [])) = _
      rw [decide_eq_false hr0]; rfl
theorem F138_eq (K : Nat) (w : By) (hK : 1000 < K) : F138 K w = some (okP (rn w)) := by
  unfold F138 rn
  by_cases h : 18 < w.length
  · rw [decide_eq_true (show 18 < (w.length : Int) by omega), if_pos h]; rfl
  rw [decide_eq_false (show ¬ 18 < (w.length : Int) by omega), if_neg h]
  cases w with
  | nil => rfl
  | cons c r =>
    rw [List.length_cons] at h
    have e36 : decide ((c.toNat : Int) = 36) = decide (c = 36) := by
      have := all_bytes (p := fun c => decide ((c.toNat : Int) = 36) == decide (c = 36)) (by kernel_rfl) c
      exact eq_of_beq this
    have e37 : decide ((c.toNat : Int) = 37) = decide (c = 37) := by
      have := all_bytes (p := fun c => decide ((c.toNat : Int) = 37) == decide (c = 37)) (by kernel_rfl) c
      exact eq_of_beq this
    simp only [branch_f, bindO_s, csO_r]
    rw [decide_eq_false (show ¬ (c :: r) = [] by simp)]
    simp only [branch_f, bindO_s, csO_r]
    have h0 : (c :: r)[(0 : Int).toNat]? = some c := rfl
    have hd : dpL (c :: r) 1 = r := rfl
    rw [nth_z (by omega) h0, e36, e37, hd, F161_eq K r 16 (by omega) (by omega) hK, F161_eq K r 2 (by omega) (by omega) hK, F161_eq K (c :: r) 10 (by rw [List.length_cons]; omega) (by omega) hK]
    simp only [List.length_cons]
    rw [decide_eq_true (show (0 : Int) ≤ 1 ∧ 1 ≤ ((r.length + 1 : Nat) : Int) by omega)]
    by_cases h1 : c = 36
    · rw [decide_eq_true h1, if_pos h1]; rfl
    · rw [decide_eq_false h1, if_neg h1]
      by_cases h2 : c = 37
      · rw [decide_eq_true h2, if_pos h2]; rfl
      · rw [decide_eq_false h2, if_neg h2, if_neg (List.cons_ne_nil c r)]; rfl
theorem F200_eq (K : Nat) (ds : By) (b : Int) (hd : (ds, b) = ([48, 49, 50, 51, 52, 53, 54, 55, 56, 57, 65, 66, 67, 68, 69, 70], 16) ∨ (ds, b) = ([48, 49], 2) ∨ (ds, b) = ([48, 49, 50, 51, 52, 53, 54, 55, 56, 57], 10)) (c : UInt8) :
    F200 K (ds, (c.toNat : Int)) = some (if b ≤ dig c then -1 else dig c) := by
  rcases hd with h | h | h <;> cases h
  · have := all_bytes (p := fun c => decide (F200 0 ([48, 49, 50, 51, 52, 53, 54, 55, 56, 57, 65, 66, 67, 68, 69, 70], (c.toNat : Int)) = some (if (16 : Int) ≤ dig c then -1 else dig c))) (by kernel_rfl) c
    exact of_decide_eq_true this
  · have := all_bytes (p := fun c => decide (F200 0 ([48, 49], (c.toNat : Int)) = some (if (2 : Int) ≤ dig c then -1 else dig c))) (by kernel_rfl) c
    exact of_decide_eq_true this
  · have := all_bytes (p := fun c => decide (F200 0 ([48, 49, 50, 51, 52, 53, 54, 55, 56, 57], (c.toNat : Int)) = some (if (10 : Int) ≤ dig c then -1 else dig c))) (by kernel_rfl) c
    exact of_decide_eq_true this
section
variable (K : Nat) (ds : By) (b : Int) (hd : (ds, b) = ([48, 49, 50, 51, 52, 53, 54, 55, 56, 57, 65, 66, 67, 68, 69, 70], 16) ∨ (ds, b) = ([48, 49], 2) ∨ (ds, b) = ([48, 49, 50, 51, 52, 53, 54, 55, 56, 57], 10))
theorem ds_len (hd : (ds, b) = ([48, 49, 50, 51, 52, 53, 54, 55, 56, 57, 65, 66, 67, 68, 69, 70], 16) ∨ (ds, b) = ([48, 49], 2) ∨ (ds, b) = ([48, 49, 50, 51, 52, 53, 54, 55, 56, 57], 10)) : (ds.length : Int) = b ∧ 0 ≤ b ∧ b ≤ 16 := by
  rcases hd with h | h | h <;> cases h <;> decide
theorem F189_step (hd : (ds, b) = ([48, 49, 50, 51, 52, 53, 54, 55, 56, 57, 65, 66, 67, 68, 69, 70], 16) ∨ (ds, b) = ([48, 49], 2) ∨ (ds, b) = ([48, 49, 50, 51, 52, 53, 54, 55, 56, 57], 10)) (r : By) (n : Int) (i : Nat) (c : UInt8) (hc : r[i]? = some c) (hr : r.length ≤ 1000) (hn : 0 ≤ n ∧ n ≤ 2000000) :
    F189_b0 K (r, ds, n, (r.length : Int), (i : Int)) = some (if b ≤ dig c ∨ 65535 < n then .inr (.inl (0, false)) else .inl (r, ds, n * b + dig c, (r.length : Int), ((i + 1 : Nat) : Int))) := by
  obtain ⟨l1, l2, l3⟩ := ds_len ds b hd
  have hi : i < r.length := (List.getElem?_eq_some_iff.1 hc).1
  have h0 := dig_nonneg c
  have h9 := dig_le c
  have e3 : w64 ((i : Int) + 1) = ((i + 1 : Nat) : Int) := by rw [w64_id (by omega) (by omega)]; omega
  unfold F189_b0
  dsimp only
  rw [decide_eq_true (show (i : Int) < (r.length : Int) by omega), branch_t, nth_s hc, F200_eq K ds b hd]
  simp only [bindO_s]
  by_cases h : b ≤ dig c
  · rw [if_pos h, if_pos (.inl h)]; rfl
  · rw [if_neg h, decide_eq_false (show ¬ dig c < 0 by omega)]
    simp only [branch_f, bindO_s]
    by_cases h2 : 65535 < n
    · rw [decide_eq_true h2, if_pos (.inr h2)]; rfl
    · rw [decide_eq_false h2, if_neg (by rintro (h3 | h3); exact h h3; exact h2 h3)]
      simp only [branch_f, bindO_s, csO_r]
      have m0 : 0 ≤ n * b := Int.mul_nonneg hn.1 l2
      have m1 : n * b ≤ 65535 * 16 := Int.mul_le_mul (by omega) l3 l2 (by omega)
      rw [l1, w64_id (n := n * b) (by omega) (by omega), w64_id (n := n * b + dig c) (by omega) (by omega), e3]
theorem F189_loop (hd : (ds, b) = ([48, 49, 50, 51, 52, 53, 54, 55, 56, 57, 65, 66, 67, 68, 69, 70], 16) ∨ (ds, b) = ([48, 49], 2) ∨ (ds, b) = ([48, 49, 50, 51, 52, 53, 54, 55, 56, 57], 10)) (r : By) (hr : r.length ≤ 1000) : ∀ (N i : Nat) (n : Int), 0 ≤ n ∧ n ≤ 65535 → i ≤ r.length → r.length - i < N →
    ∃ z, iter N (F189_b0 K) (r, ds, n, (r.length : Int), (i : Int)) = some z ∧ (match base b (r.drop i) n with | some m => z = .inr (r, m) ∧ m ≤ 65535 | none => z = .inl (0, false) ∨ ∃ m, z = .inr (r, m) ∧ 65535 < m)
  | 0, i, n, _, _, h => absurd h (Nat.not_lt_zero _)
  | N + 1, i, n, hn, hi, hN => by
    obtain ⟨l1, l2, l3⟩ := ds_len ds b hd
    have fin : ∀ n : Int, F189_b0 K (r, ds, n, (r.length : Int), (r.length : Int)) = some (.inr (.inr (r, n))) := fun n => by
      unfold F189_b0; dsimp only; rw [decide_eq_false (by omega)]; rfl
    rcases Nat.lt_or_ge i r.length with hlt | hge
    · have hv := List.getElem?_eq_getElem hlt
      have hs := F189_step K ds b hd r n i _ hv hr ⟨hn.1, by omega⟩
      rw [List.drop_eq_getElem_cons hlt]
      unfold base
      by_cases h : b ≤ dig r[i]
      · rw [if_pos (.inl h)] at hs; rw [if_pos h]
        exact ⟨_, by simp only [iter, hs], .inl rfl⟩
      · rw [if_neg h]
        rw [if_neg (by rintro (h3 | h3); exact h h3; omega)] at hs
        have m0 : 0 ≤ n * b := Int.mul_nonneg hn.1 l2
        have m1 : n * b ≤ 65535 * 16 := Int.mul_le_mul (by omega) l3 l2 (by omega)
        have h0 := dig_nonneg r[i]
        have h9 := dig_le r[i]
        by_cases h2 : 65535 < n * b + dig r[i]
        · rw [if_pos h2]
          obtain ⟨N, rfl⟩ : ∃ x, N = x + 1 := ⟨N - 1, by omega⟩
          rcases Nat.lt_or_ge (i + 1) r.length with hlt2 | hge2
          · have hs2 := F189_step K ds b hd r (n * b + dig r[i]) (i + 1) _ (List.getElem?_eq_getElem hlt2) hr ⟨by omega, by omega⟩
            rw [if_pos (.inr h2)] at hs2
            exact ⟨_, by simp only [iter, hs, hs2], .inl rfl⟩
          · have e : i + 1 = r.length := by omega
            rw [e] at hs
            exact ⟨_, by simp only [iter, hs, fin], .inr ⟨_, rfl, h2⟩⟩
        · rw [if_neg h2]
          obtain ⟨z, z1, z2⟩ := F189_loop hd r hr N (i + 1) (n * b + dig r[i]) ⟨by omega, by omega⟩ hlt (by omega)
          exact ⟨z, by simp only [iter, hs]; exact z1, z2⟩
    · have : i = r.length := by omega
      subst this
      rw [List.drop_length]
      exact ⟨_, by simp only [iter, fin], rfl, hn.2⟩
theorem F189_eq (hd : (ds, b) = ([48, 49, 50, 51, 52, 53, 54, 55, 56, 57, 65, 66, 67, 68, 69, 70], 16) ∨ (ds, b) = ([48, 49], 2) ∨ (ds, b) = ([48, 49, 50, 51, 52, 53, 54, 55, 56, 57], 10)) (r : By) (hr : r.length ≤ 1000) (hK : 1000 < K) : ∃ n ok, F189 K (r, ds) = some (n, ok) ∧ (match (if r = [] then none else base b r 0) with | some m => n = m ∧ ok = true | none => ok = false) := by
  obtain ⟨z, z1, z2⟩ := F189_loop K ds b hd r hr K 0 0 (by omega) (Nat.zero_le _) (by omega)
  rw [show ((0 : Nat) : Int) = 0 from rfl] at z1
  rw [List.drop_zero] at z2
  unfold F189
  dsimp only
  rw [z1]
  by_cases hr0 : r = []
  · subst hr0
    rw [if_pos rfl]
    obtain ⟨rfl, _⟩ : z = .inr (([] : By), 0) ∧ (0 : Int) ≤ 65535 := z2
    exact ⟨_, _, rfl, rfl⟩
  · rw [if_neg hr0]
    cases hb : base b r 0 with
    | some m =>
      rw [hb] at z2
      obtain ⟨rfl, hm⟩ := z2
      refine ⟨m, true, ?_, rfl, rfl⟩
      show branch (!decide (r = [])) _ _ = _
      rw [decide_eq_false hr0, Bool.not_false, branch_t, decide_eq_true hm]
    | none =>
      rw [hb] at z2
      rcases z2 with rfl | ⟨m, rfl, hm⟩
      · exact ⟨_, _, rfl, rfl⟩
      · refine ⟨m, false, ?_, rfl⟩
        show branch (!decide (r = [])) _ _ = _
        rw [decide_eq_false hr0, Bool.not_false, branch_t, decide_eq_false (by omega)]
end
theorem F163_eq (K : Nat) (w : By) (hK : 1000 < K) : F163 K w = some (okP (rn w)) := by
  have fin : ∀ (n : Int) (ok : Bool) (x : Option Int), (match x with | some m => n = m ∧ ok = true | none => ok = false) → branch (!ok) (some ((0 : Int), false)) (some (n, true)) = some (okP x) := by
    intro n ok x h
    cases x with
    | some m => obtain ⟨rfl, rfl⟩ := h; rfl
    | none => cases h; rfl
  unfold F163 rn
  by_cases h : 18 < w.length
  · rw [decide_eq_true (show 18 < (w.length : Int) by omega), if_pos h]; rfl
  rw [decide_eq_false (show ¬ 18 < (w.length : Int) by omega), if_neg h, branch_f, F143_eq K w [36] (by omega), F143_eq K w [37] (by omega)]
  simp only [bindO_s]
  cases w with
  | nil =>
    obtain ⟨n, ok, e1, e2⟩ := F189_eq K _ _ (.inr (.inr rfl)) [] (by simp) hK
    rw [show ([36] : By).isPrefixOf ([] : By) = false from rfl, show ([37] : By).isPrefixOf ([] : By) = false from rfl, branch_f, branch_f, e1]
    exact fin n ok none e2
  | cons c r =>
    rw [List.length_cons] at h
    have one : ∀ (x : UInt8), ([x] : By).isPrefixOf (c :: r) = decide (c = x) := fun x => by
      show (x == c && List.isPrefixOf [] r) = _
      have : List.isPrefixOf ([] : By) r = true := by cases r <;> rfl
      rw [this, Bool.and_true, Bool.eq_iff_iff, beq_iff_eq, decide_eq_true_eq]; exact ⟨Eq.symm, Eq.symm⟩
    have hdp : dpL (c :: r) 1 = r := rfl
    rw [one, one, hdp]
    simp only [List.length_cons]
    rw [decide_eq_true (show (0 : Int) ≤ 1 ∧ 1 ≤ ((r.length + 1 : Nat) : Int) by omega)]
    simp only [guard_t]
    by_cases h1 : c = 36
    · obtain ⟨n, ok, e1, e2⟩ := F189_eq K _ _ (.inl rfl) r (by omega) hK
      rw [decide_eq_true h1, if_pos h1, branch_t, e1]
      exact fin n ok _ e2
    · rw [decide_eq_false h1, if_neg h1, branch_f]
      by_cases h2 : c = 37
      · obtain ⟨n, ok, e1, e2⟩ := F189_eq K _ _ (.inr (.inl rfl)) r (by omega) hK
        rw [decide_eq_true h2, if_pos h2, branch_t, e1]
        exact fin n ok _ e2
      · obtain ⟨n, ok, e1, e2⟩ := F189_eq K _ _ (.inr (.inr rfl)) (c :: r) (by rw [List.length_cons]; omega) hK
        rw [decide_eq_false h2, if_neg h2, branch_f, e1]
        rw [if_neg (by simp)] at e2
        exact fin n ok _ e2
end Go.U.Tryz
namespace Go.U.Tryz
open Go Go.U Go.U.Exp
set_option maxRecDepth 20000
abbrev Obj := By × Int × Bool × Os
def Res (s : By) (N : Nat) (x : Option Exp.St) (v : Obj) : Prop := match x with
  | some t => ∃ m : Nat, m ≤ s.length ∧ s.drop m = t.1 ∧ v = (s, (m : Int), false, t.2) ∧ t.2.length ≤ 30
  | none => ∃ (m : Nat) (o : Os), m ≤ s.length ∧ v = (s, (m : Int), true, o) ∧ o.length ≤ N
theorem pre_at {w r : By} (h : w.isPrefixOf r = true) {i : Nat} {c : UInt8} (hc : w[i]? = some c) : r[i]? = some c := by
  obtain ⟨t, rfl⟩ := List.isPrefixOf_iff_prefix.mp h
  have hi : i < w.length := (List.getElem?_eq_some_iff.1 hc).1
  rw [List.getElem?_append_left hi]; exact hc
theorem pre_other {c d : UInt8} {w w' r : By} (h : (c :: w).isPrefixOf r = true) (hd : d ≠ c) : (d :: w').isPrefixOf r = false := by
  cases r with
  | nil => exact nomatch h
  | cons a r =>
    have h1 : (c == a && w.isPrefixOf r) = true := h
    rw [Bool.and_eq_true, beq_iff_eq] at h1
    rw [← h1.1]; exact pre_ne hd
section
variable {K : Nat} {s : By} {n : Nat} {o : Os} {b : Bool} (hn : n ≤ s.length) (hs : s.length ≤ 1000)
theorem F135_t (hn : n ≤ s.length) (hs : s.length ≤ 1000) {w : By} (hw : w.length ≤ 100) (h : w.isPrefixOf (s.drop n) = true) : F135 K (w, s, (n : Int), b, o) = some (true, s, ((n + w.length : Nat) : Int), b, o) := by
  rw [F135_eq K w s n b o hn hs hw]; unfold rd; rw [if_pos h]
theorem F135_f (hn : n ≤ s.length) (hs : s.length ≤ 1000) {w : By} (hw : w.length ≤ 100) (h : w.isPrefixOf (s.drop n) = false) : F135 K (w, s, (n : Int), b, o) = some (false, s, (n : Int), b, o) := by
  rw [F135_eq K w s n b o hn hs hw]; unfold rd; rw [if_neg (by rw [h]; decide)]
theorem F116_t (hn : n ≤ s.length) (hs : s.length ≤ 1000) {w : By} (hw : w.length ≤ 100) (h : w.isPrefixOf (s.drop n) = true) : F116 K (w, s, (n : Int), false, o) = some (true, s, ((n + w.length : Nat) : Int), false, o) := by
  rw [F116_eq K w s n o hn hs hw]; unfold rd; rw [if_pos h]
theorem F116_f (hn : n ≤ s.length) (hs : s.length ≤ 1000) {w : By} (hw : w.length ≤ 100) (h : w.isPrefixOf (s.drop n) = false) : F116 K (w, s, (n : Int), false, o) = some (false, s, (n : Int), false, o) := by
  rw [F116_eq K w s n o hn hs hw]; unfold rd; rw [if_neg (by rw [h]; decide)]
theorem pre_room (hn : n ≤ s.length) {w : By} (h : w.isPrefixOf (s.drop n) = true) : n + w.length ≤ s.length := by
  have := pre_len h
  rw [List.length_drop] at this; omega
end
theorem need41 (r : By) (o : Os) : needP (r, o) = if ([41] : By).isPrefixOf r = true then some (r.drop 1, o) else none := by
  cases r with
  | nil => rfl
  | cons a r =>
    have : ([41] : By).isPrefixOf (a :: r) = decide (a = 41) := by
      show ((41 : UInt8) == a && List.isPrefixOf [] r) = _
      have : List.isPrefixOf ([] : By) r = true := by cases r <;> rfl
      rw [this, Bool.and_true, Bool.eq_iff_iff, beq_iff_eq, decide_eq_true_eq]; exact ⟨Eq.symm, Eq.symm⟩
    rw [this]
    unfold needP
    by_cases h : a = 41
    · dsimp only; rw [if_pos h, decide_eq_true h]; rfl
    · dsimp only; rw [if_neg h, decide_eq_false h]; rfl
theorem res_put {K : Nat} {s : By} {x : Option Exp.St} {v : Obj} (h : Res s 30 x v) (k i : Int) (w : By) : ∃ v', F108 K (k, i, w, v) = some v' ∧ Res s 30 (x.bind (putN (k, i, w))) v' := by
  cases x with
  | none =>
    obtain ⟨m, o, h1, rfl, h3⟩ := h
    rw [F108_eq K k i w s _ true o h3]
    split
    · rename_i hl
      exact ⟨_, rfl, m, _, h1, rfl, by rw [List.length_append, List.length_singleton]; omega⟩
    · exact ⟨_, rfl, m, _, h1, rfl, h3⟩
  | some t =>
    obtain ⟨m, h1, h2, rfl, h4⟩ := h
    rw [F108_eq K k i w s _ false t.2 h4]
    show ∃ v', _ ∧ Res s 30 (putN (k, i, w) t) v'
    unfold putN
    by_cases hl : t.2.length < 30
    · rw [if_pos hl, if_pos hl]
      exact ⟨_, rfl, m, h1, h2, rfl, by rw [List.length_append, List.length_singleton]; omega⟩
    · rw [if_neg hl, if_neg hl]
      exact ⟨_, rfl, m, _, h1, rfl, h4⟩
theorem res_need {K : Nat} {s : By} (hs : s.length ≤ 1000) {x : Option Exp.St} {v : Obj} (h : Res s 30 x v) :
    (x = none ∧ ∃ (m : Nat) (o : Os), m ≤ s.length ∧ v = (s, (m : Int), true, o) ∧ o.length ≤ 30) ∨
    ∃ t, x = some t ∧ ∃ m : Nat, v = (s, (m : Int), false, t.2) ∧ ∃ f m', F135 K ([41], s, (m : Int), false, t.2) = some (f, s, m', false, t.2) ∧ Res s 30 (x.bind needP) (s, m', !f, t.2) := by
  cases x with
  | none => exact .inl ⟨rfl, h⟩
  | some t =>
    obtain ⟨m, h1, h2, h3, h4⟩ := h
    refine .inr ⟨t, rfl, m, h3, ?_⟩
    show ∃ f m', _ ∧ Res s 30 (needP (t.1, t.2)) _
    rw [need41, ← h2]
    by_cases hp : ([41] : By).isPrefixOf (s.drop m) = true
    · rw [F135_t h1 hs (by decide) hp, if_pos hp]
      exact ⟨true, _, rfl, m + 1, pre_room h1 hp, by rw [List.drop_drop], rfl, h4⟩
    · rw [Bool.not_eq_true] at hp
      rw [F135_f h1 hs (by decide) hp, if_neg (by rw [hp]; decide)]
      exact ⟨false, _, rfl, m, _, h1, rfl, h4⟩
section
variable {K : Nat} (hK : 1000 < K) {s : By} (hs : s.length ≤ 990)
theorem spec_word (hK : 1000 < K) (hs : s.length ≤ 990) (sg : By) (hsg : sg.length ≤ 1) (n : Nat) (o : Os) (hn : n ≤ s.length) (ho : o.length ≤ 30) :
    ∃ v, (bindO (F136 K ((s, (n : Int), false, o) : Obj)) fun v31 =>
    guard (decide ((sg.length + v31.1.length) ≤ 9223372036854775807)) <|
    bindO (F138 K (sg ++ v31.1)) fun v32 =>
    branch v32.2
     (bindO (F108 K (1, v32.1, [], v31.2)) fun v33 =>
     some v33)
     (bindO (α := (List UInt8) × Bool × (List UInt8) × Int × Bool × List (Int × Int × List UInt8)) (branch (decide (sg = []))
        (bindO (F137 K v31.1) fun v34 =>
        some (v31.1, v34, v31.2))
        (some (v31.1, false, v31.2))) fun v35 =>
     branch v35.2.1
      (bindO (F108 K (2, 0, v35.1, v35.2.2)) fun v36 =>
      some v36)
      (some (v35.2.2.1, v35.2.2.2.1, true, v35.2.2.2.2.2)))) = some v ∧ Res s 30 (wordB rn nm sg (s.drop n) o) v := by
  have hl := tw_len (s.drop n)
  rw [List.length_drop] at hl
  rw [F136_eq K s n false o hn (by omega) hK]
  simp only [bindO_s]
  rw [decide_eq_true (by omega), guard_t, F138_eq K _ hK]
  simp only [bindO_s]
  have hres : Res s 30 (some ((s.drop n).dropWhile isW, o)) (s, ((n + ((s.drop n).takeWhile isW).length : Nat) : Int), false, o) :=
    ⟨_, by omega, by rw [dw_drop, List.drop_drop], rfl, ho⟩
  unfold wordB
  cases hr : rn (sg ++ (s.drop n).takeWhile isW) with
  | some i =>
    obtain ⟨v', e1, e2⟩ := res_put (K := K) hres 1 i []
    exact ⟨v', by show bindO (F108 K (1, i, [], s, ((n + ((s.drop n).takeWhile isW).length : Nat) : Int), false, o)) _ = _; rw [e1]; rfl, e2⟩
  | none =>
    simp only [okP, branch_f]
    by_cases h0 : sg = []
    · rw [decide_eq_true h0, branch_t, F137_eq K _ hK]
      simp only [bindO_s]
      cases hm : nm ((s.drop n).takeWhile isW) with
      | true =>
        rw [if_pos ⟨h0, rfl⟩]
        obtain ⟨v', e1, e2⟩ := res_put (K := K) hres 2 0 ((s.drop n).takeWhile isW)
        exact ⟨v', by show bindO (F108 K _) _ = _; rw [e1]; rfl, e2⟩
      | false =>
        rw [if_neg (by intro h; exact nomatch h.2)]
        exact ⟨_, rfl, _, _, by omega, rfl, ho⟩
    · rw [decide_eq_false h0, if_neg (by intro h; exact h0 h.1)]
      exact ⟨_, rfl, _, _, by omega, rfl, ho⟩
theorem spec_value (hK : 1000 < K) (hs : s.length ≤ 990) {V : (Int × List UInt8 × Int × Bool × List (Int × Int × List UInt8)) → Option Obj} {L : (Int × Int × List UInt8 × Int × Bool × List (Int × Int × List UInt8)) → Option Obj} {MV ML : Ps} (deep : Int) (h0 : 0 ≤ deep) (h30 : deep ≤ 30)
    (hV : ∀ (n : Nat) (o : Os), n ≤ s.length → o.length ≤ 30 → ∃ v, V (deep + 1, s, (n : Int), false, o) = some v ∧ Res s 30 (MV (s.drop n) o) v)
    (hL : ∀ (n : Nat) (o : Os), n ≤ s.length → o.length ≤ 30 → ∃ v, L (1, deep + 1, s, (n : Int), false, o) = some v ∧ Res s 30 (ML (s.drop n) o) v)
    (n : Nat) (o : Os) (hn : n ≤ s.length) (ho : o.length ≤ 30) : ∃ v, F104b V L K (deep, s, (n : Int), false, o) = some v ∧ Res s 30 (valB rn nm ML MV (s.drop n) o) v := by
  have hs' : s.length ≤ 1000 := by omega
  have ew : w64 (deep + 1) = deep + 1 := w64_id (by omega) (by omega)
  unfold F104b
  dsimp only
  rw [decide_eq_false (show ¬ 30 < deep by omega), ew]
  simp only [branch_f]
  unfold valB
  by_cases h1 : ([45] : By).isPrefixOf (s.drop n) = true
  · obtain ⟨v, e1, e2⟩ := hV (n + 1) o (pre_room hn h1) ho
    obtain ⟨v', p1, p2⟩ := res_put (K := K) e2 4 0 []
    rw [if_pos h1, F135_t hn hs' (by decide) h1]
    simp only [bindO_s, branch_t, List.length_singleton, e1, p1, csO_l]
    exact ⟨v', rfl, by rw [List.drop_drop]; exact p2⟩
  rw [Bool.not_eq_true] at h1
  rw [F135_f hn hs' (by decide) h1, if_neg (by rw [h1]; decide)]
  simp only [bindO_s, branch_f]
  by_cases h2 : ([126] : By).isPrefixOf (s.drop n) = true
  · obtain ⟨v, e1, e2⟩ := hV (n + 1) o (pre_room hn h2) ho
    obtain ⟨v', p1, p2⟩ := res_put (K := K) e2 5 0 []
    rw [if_pos h2, F135_t hn hs' (by decide) h2]
    simp only [bindO_s, branch_t, List.length_singleton, e1, p1, csO_l]
    exact ⟨v', rfl, by rw [List.drop_drop]; exact p2⟩
  rw [Bool.not_eq_true] at h2
  rw [F135_f hn hs' (by decide) h2, if_neg (by rw [h2]; decide)]
  simp only [bindO_s, branch_f]
  -- what stands in brackets
  by_cases h3 : ([40] : By).isPrefixOf (s.drop n) = true
  · have q1 : ([104, 105, 103, 104, 40] : By).isPrefixOf (s.drop n) = false := pre_other h3 (by decide)
    have q2 : ([108, 111, 119, 40] : By).isPrefixOf (s.drop n) = false := pre_other h3 (by decide)
    have q3 : ([98, 97, 110, 107, 40] : By).isPrefixOf (s.drop n) = false := pre_other h3 (by decide)
    rw [if_pos h3, F135_f hn hs' (by decide) q1]
    simp only [bindO_s, branch_f]
    rw [F135_f hn hs' (by decide) q2]
    simp only [bindO_s, branch_f]
    rw [F135_f hn hs' (by decide) q3]
    simp only [bindO_s, branch_f, ew]
    rw [F135_t hn hs' (by decide) h3]
    obtain ⟨v, e1, e2⟩ := hL (n + 1) o (pre_room hn h3) ho
    simp only [bindO_s, branch_t, List.length_singleton, e1]
    rw [List.drop_drop]
    rcases res_need (K := K) hs' e2 with ⟨hx, m, o', m1, rfl, m2⟩ | ⟨t, hx, m, rfl, f, m', g1, g2⟩
    · rw [hx]
      exact ⟨_, rfl, m, o', m1, rfl, m2⟩
    · dsimp only
      rw [branch_f, g1]
      exact ⟨_, rfl, g2⟩
  rw [Bool.not_eq_true] at h3
  rw [if_neg (show ¬ ([40] : By).isPrefixOf (s.drop n) = true by rw [h3]; decide)]
  by_cases h4 : high_.isPrefixOf (s.drop n) = true
  · rw [if_pos h4, (show F135 K ([104, 105, 103, 104, 40], s, (n : Int), false, o) = some (true, s, ((n + high_.length : Nat) : Int), false, o) from F135_t hn hs' (by decide) h4)]
    have hc : s[(((n + high_.length : Nat) : Int) - 2).toNat]? = some 104 := by
      have := pre_at h4 (i := 3) (c := 104) rfl
      rw [List.getElem?_drop] at this
      rw [show (((n + high_.length : Nat) : Int) - 2).toNat = n + 3 by rw [show high_.length = 5 from rfl]; omega]
      exact this
    have hm : high_.length = 5 := rfl
    have hro := pre_room hn h4
    simp only [bindO_s, branch_t]
    rw [w64_id (n := ((n + high_.length : Nat) : Int) - 2) (by omega) (by omega), nth_z (by omega) hc]
    rw [show decide (((104 : UInt8).toNat : Int) = 104) = true from rfl]
    obtain ⟨v, e1, e2⟩ := hL (n + high_.length) o (pre_room hn h4) ho
    simp only [branch_t, bindO_s, ew, e1]
    rw [List.drop_drop]
    rcases res_need (K := K) hs' e2 with ⟨hx, m, o', m1, rfl, m2⟩ | ⟨t, hx, m, rfl, f, m', g1, g2⟩
    · have hb : Res s 30 none (s, (m : Int), true, o') := ⟨m, o', m1, rfl, m2⟩
      obtain ⟨v', p1, p2⟩ := res_put (K := K) hb 6 0 []
      rw [show n + 5 = n + high_.length from rfl, hx]
      dsimp only
      rw [branch_t, p1]
      exact ⟨_, rfl, p2⟩
    · obtain ⟨v', p1, p2⟩ := res_put (K := K) g2 6 0 []
      dsimp only
      rw [branch_f, g1]
      simp only [bindO_s]
      rw [p1]
      exact ⟨_, rfl, p2⟩
  rw [Bool.not_eq_true] at h4
  rw [(show F135 K ([104, 105, 103, 104, 40], s, (n : Int), false, o) = some (false, s, (n : Int), false, o) from F135_f hn hs' (by decide) h4), if_neg (show ¬ high_.isPrefixOf (s.drop n) = true by rw [h4]; decide)]
  simp only [bindO_s, branch_f]
  by_cases h5 : low_.isPrefixOf (s.drop n) = true
  · rw [if_pos h5, (show F135 K ([108, 111, 119, 40], s, (n : Int), false, o) = some (true, s, ((n + low_.length : Nat) : Int), false, o) from F135_t hn hs' (by decide) h5)]
    have hc : s[(((n + low_.length : Nat) : Int) - 2).toNat]? = some 119 := by
      have := pre_at h5 (i := 2) (c := 119) rfl
      rw [List.getElem?_drop] at this
      rw [show (((n + low_.length : Nat) : Int) - 2).toNat = n + 2 by rw [show low_.length = 4 from rfl]; omega]
      exact this
    have hm : low_.length = 4 := rfl
    have hro := pre_room hn h5
    simp only [bindO_s, branch_t]
    rw [w64_id (n := ((n + low_.length : Nat) : Int) - 2) (by omega) (by omega), nth_z (by omega) hc]
    rw [show decide (((119 : UInt8).toNat : Int) = 104) = false from rfl]
    obtain ⟨v, e1, e2⟩ := hL (n + low_.length) o (pre_room hn h5) ho
    simp only [branch_f, bindO_s, ew, e1]
    rw [List.drop_drop]
    rcases res_need (K := K) hs' e2 with ⟨hx, m, o', m1, rfl, m2⟩ | ⟨t, hx, m, rfl, f, m', g1, g2⟩
    · have hb : Res s 30 none (s, (m : Int), true, o') := ⟨m, o', m1, rfl, m2⟩
      obtain ⟨v', p1, p2⟩ := res_put (K := K) hb 7 0 []
      rw [show n + 4 = n + low_.length from rfl, hx]
      dsimp only
      rw [branch_t, p1]
      exact ⟨_, rfl, p2⟩
    · obtain ⟨v', p1, p2⟩ := res_put (K := K) g2 7 0 []
      dsimp only
      rw [branch_f, g1]
      simp only [bindO_s]
      rw [p1]
      exact ⟨_, rfl, p2⟩
  rw [Bool.not_eq_true] at h5
  rw [(show F135 K ([108, 111, 119, 40], s, (n : Int), false, o) = some (false, s, (n : Int), false, o) from F135_f hn hs' (by decide) h5), if_neg (show ¬ low_.isPrefixOf (s.drop n) = true by rw [h5]; decide)]
  simp only [bindO_s, branch_f]
  by_cases h6 : bank_.isPrefixOf (s.drop n) = true
  · have hro := pre_room hn h6
    have hl := tw_len (s.drop (n + bank_.length))
    rw [List.length_drop] at hl
    rw [if_pos h6, (show F135 K ([98, 97, 110, 107, 40], s, (n : Int), false, o) = some (true, s, ((n + bank_.length : Nat) : Int), false, o) from F135_t hn hs' (by decide) h6)]
    simp only [bindO_s, branch_t]
    rw [F136_eq K s (n + bank_.length) false o hro hs' hK]
    simp only [bindO_s, branch_f]
    rw [F137_eq K _ hK, List.drop_drop, show n + 5 = n + bank_.length from rfl]
    simp only [bindO_s]
    cases hm : nm ((s.drop (n + bank_.length)).takeWhile isW) with
    | false =>
      have hb : Res s 30 none (s, ((n + bank_.length + ((s.drop (n + bank_.length)).takeWhile isW).length : Nat) : Int), true, o) := ⟨_, o, by omega, rfl, ho⟩
      obtain ⟨v', p1, p2⟩ := res_put (K := K) hb 3 0 ((s.drop (n + bank_.length)).takeWhile isW)
      rw [Bool.not_false, branch_t, p1]
      exact ⟨_, rfl, by rw [if_neg (by decide)]; exact p2⟩
    | true =>
      rw [Bool.not_true, branch_f, if_pos rfl]
      have hb : Res s 30 (some ((s.drop (n + bank_.length)).dropWhile isW, o)) (s, ((n + bank_.length + ((s.drop (n + bank_.length)).takeWhile isW).length : Nat) : Int), false, o) :=
        ⟨_, by omega, by rw [dw_drop, List.drop_drop], rfl, ho⟩
      rcases res_need (K := K) hs' hb with ⟨hx, _⟩ | ⟨t, hx, m, hv, f, m', g1, g2⟩
      · exact nomatch hx
      · cases Option.some.inj hx
        have e : ((n + bank_.length + ((s.drop (n + bank_.length)).takeWhile isW).length : Nat) : Int) = (m : Int) := congrArg (fun z : Obj => z.2.1) hv
        obtain ⟨v', p1, p2⟩ := res_put (K := K) g2 3 0 ((s.drop (n + bank_.length)).takeWhile isW)
        rw [e, g1]
        simp only [bindO_s]
        rw [p1]
        exact ⟨_, rfl, p2⟩
  rw [Bool.not_eq_true] at h6
  rw [(show F135 K ([98, 97, 110, 107, 40], s, (n : Int), false, o) = some (false, s, (n : Int), false, o) from F135_f hn hs' (by decide) h6), if_neg (show ¬ bank_.isPrefixOf (s.drop n) = true by rw [h6]; decide)]
  simp only [bindO_s, branch_f]
  rw [F135_f hn hs' (by decide) h3]
  simp only [bindO_s, branch_f, csO_r]
  by_cases h7 : ([36] : By).isPrefixOf (s.drop n) = true
  · rw [if_pos h7, F135_t hn hs' (by decide) h7, List.drop_drop]
    simp only [bindO_s, branch_t]
    exact spec_word hK hs [36] (by decide) (n + 1) o (pre_room hn h7) ho
  rw [Bool.not_eq_true] at h7
  rw [F135_f hn hs' (by decide) h7, if_neg (show ¬ ([36] : By).isPrefixOf (s.drop n) = true by rw [h7]; decide)]
  simp only [bindO_s, branch_f]
  by_cases h8 : ([37] : By).isPrefixOf (s.drop n) = true
  · rw [if_pos h8, F135_t hn hs' (by decide) h8, List.drop_drop]
    simp only [bindO_s, branch_t]
    exact spec_word hK hs [37] (by decide) (n + 1) o (pre_room hn h8) ho
  rw [Bool.not_eq_true] at h8
  rw [F135_f hn hs' (by decide) h8, if_neg (show ¬ ([37] : By).isPrefixOf (s.drop n) = true by rw [h8]; decide)]
  simp only [bindO_s, branch_f]
  exact spec_word hK hs [] (by decide) n o hn ho
end
end Go.U.Tryz
namespace Go.U.Tryz
open Go Go.U Go.U.Exp
set_option maxRecDepth 20000
def un {α : Type} : α ⊕ α → α | .inl v => v | .inr v => v
theorem cs_un {α : Type} (z : α ⊕ α) : csO z (fun v => some v) (fun v => some v) = some (un z) := by cases z <;> rfl
section
variable {K : Nat} (hK : 1000 < K) {s : By} (hs : s.length ≤ 990)
theorem spec_loop (hK : 1000 < K) (hs : s.length ≤ 990) {V : (Int × List UInt8 × Int × Bool × List (Int × Int × List UInt8)) → Option Obj} {L : (Int × Int × List UInt8 × Int × Bool × List (Int × Int × List UInt8)) → Option Obj} (d l : Nat) (hl : l ≤ 100) (deep : Int) (h0 : 0 ≤ deep) (h30 : deep ≤ 30)
    (hL : ∀ (k n : Nat) (o : Os), 1 ≤ k → k ≤ 7 → n ≤ s.length → o.length ≤ 30 → ∃ v, L ((k : Int), deep + 1, s, (n : Int), false, o) = some v ∧ Res s 30 (S rn nm d k (s.drop n) o) v) :
    ∀ (j N N' m : Nat) (o : Os), m ≤ s.length → s.length - m ≤ j → o.length ≤ 30 → j + 1 < N' → j < N →
    ∃ z, iter N' (F80b_b0 V L K) ((l : Int), deep, s, (m : Int), false, o) = some z ∧ Res s 30 (loop2 (S rn nm d) l N (s.drop m) o) (un z) := by
  have hs' : s.length ≤ 1000 := by omega
  have ew : w64 (deep + 1) = deep + 1 := w64_id (by omega) (by omega)
  intro j
  induction j with
  | zero =>
    intro N N' m o hm hj ho hN' hN
    obtain ⟨N, rfl⟩ : ∃ x, N = x + 1 := ⟨N - 1, by omega⟩
    obtain ⟨N', rfl⟩ : ∃ x, N' = x + 1 := ⟨N' - 1, by omega⟩
    have hd : s.drop m = [] := List.drop_eq_nil_of_le (by omega)
    have hst : F80b_b0 V L K ((l : Int), deep, s, (m : Int), false, o) = some (.inr (.inl (s, (m : Int), false, o))) := by
      unfold F80b_b0
      dsimp only
      rw [Bool.not_false, branch_t, F105_eq K (by omega) s m false o hm hs', hd]
      rfl
    refine ⟨.inl (s, (m : Int), false, o), by simp only [iter, hst], ?_⟩
    rw [hd, loop2_stop (fun k l r1 g => by cases g)]
    exact ⟨m, hm, hd, rfl, ho⟩
  | succ j ih =>
    intro N N' m o hm hj ho hN' hN
    obtain ⟨N, rfl⟩ : ∃ x, N = x + 1 := ⟨N - 1, by omega⟩
    obtain ⟨N', rfl⟩ : ∃ x, N' = x + 1 := ⟨N' - 1, by omega⟩
    have hop := opJ_at (s.drop m)
    cases ha : opAt (s.drop m) with
    | none =>
      rw [ha] at hop
      have hst : F80b_b0 V L K ((l : Int), deep, s, (m : Int), false, o) = some (.inr (.inl (s, (m : Int), false, o))) := by
        unfold F80b_b0
        dsimp only
        rw [Bool.not_false, branch_t, F105_eq K (by omega) s m false o hm hs', show opJ 10 (s.drop m) = 0 from hop]
        rfl
      refine ⟨.inl (s, (m : Int), false, o), by simp only [iter, hst], ?_⟩
      rw [loop2_stop (fun k l r1 g => by rw [ha] at g; exact nomatch g)]
      exact ⟨m, hm, rfl, rfl, ho⟩
    | some x =>
      obtain ⟨k, lv, r1⟩ := x
      rw [ha] at hop
      obtain ⟨o1, o2, w, w1, w2, w3, w4⟩ := hop
      obtain ⟨⟨p, pne, hp⟩, lv1, lv2, k1, k2⟩ := opAt_some ha
      have e1 : decide (k = 0) = false := decide_eq_false (by omega)
      by_cases hlv : lv < l
      · have hst : F80b_b0 V L K ((l : Int), deep, s, (m : Int), false, o) = some (.inr (.inl (s, (m : Int), false, o))) := by
          unfold F80b_b0
          dsimp only
          rw [Bool.not_false, branch_t, F105_eq K (by omega) s m false o hm hs', o1]
          simp only [bindO_s]
          rw [e1, branch_f, o2]
          simp only [bindO_s]
          rw [decide_eq_true (show (lv : Int) < (l : Int) by omega)]
          rfl
        refine ⟨.inl (s, (m : Int), false, o), by simp only [iter, hst], ?_⟩
        rw [loop2_stop (fun k' l' r1' g => by rw [ha] at g; cases Option.some.inj g; exact hlv)]
        exact ⟨m, hm, rfl, rfl, ho⟩
      · have hw : m + w.length ≤ s.length := by rw [List.length_drop] at w3; omega
        obtain ⟨v, v1, v2⟩ := hL (lv + 1) (m + w.length) o (by omega) (by omega) hw ho
        obtain ⟨v', p1, p2⟩ := res_put (K := K) v2 k 0 []
        have hst : F80b_b0 V L K ((l : Int), deep, s, (m : Int), false, o) = some (.inl ((l : Int), deep, v')) := by
          unfold F80b_b0
          dsimp only
          rw [Bool.not_false, branch_t, F105_eq K (by omega) s m false o hm hs', o1]
          simp only [bindO_s]
          rw [e1, branch_f, o2]
          simp only [bindO_s]
          rw [decide_eq_false (show ¬ (lv : Int) < (l : Int) by omega)]
          simp only [branch_f, bindO_s, csO_r]
          rw [show F107 K () = some wds from rfl]
          simp only [bindO_s]
          rw [nth_z (by omega) w1, o2]
          simp only [bindO_s]
          rw [ew, w64_id (n := (lv : Int) + 1) (by omega) (by omega), w64_id (n := (m : Int) + (w.length : Int)) (by omega) (by omega)]
          rw [show ((lv : Int) + 1) = ((lv + 1 : Nat) : Int) by omega, show ((m : Int) + (w.length : Int)) = ((m + w.length : Nat) : Int) by omega, v1]
          simp only [bindO_s]
          rw [p1]
          rfl
        rw [loop2_go ha hlv, w4, List.drop_drop]
        cases hx : (S rn nm d (lv + 1) (s.drop (m + w.length)) o).bind (putN (k, 0, [])) with
        | none =>
          rw [hx] at p2
          obtain ⟨m', o', q1, rfl, q3⟩ := p2
          obtain ⟨N', rfl⟩ : ∃ x, N' = x + 1 := ⟨N' - 1, by omega⟩
          exact ⟨.inr (s, (m' : Int), true, o'), by simp only [iter, hst]; rfl, m', o', q1, rfl, q3⟩
        | some t =>
          rw [hx] at p2
          obtain ⟨m', q1, q2, rfl, q4⟩ := p2
          have hlen : t.1.length ≤ r1.length := by
            obtain ⟨u, u1, u2⟩ := bind_some' hx
            rw [(putN_some u2).1, w4, List.drop_drop]
            exact suf_len ((good_S rn nm d (lv + 1) _ _ _ _ u1).1)
          have hlt : r1.length < (s.drop m).length := by
            rw [hp, List.length_append]
            have : 0 < p.length := List.length_pos_iff.mpr pne
            omega
          have e2 := congrArg List.length q2
          rw [List.length_drop] at e2 hlt
          obtain ⟨z, z1, z2⟩ := ih N N' m' t.2 q1 (by omega) q4 (by omega) (by omega)
          refine ⟨z, by simp only [iter, hst]; exact z1, ?_⟩
          rw [q2] at z2
          exact z2
theorem spec_level (hK : 1000 < K) (hs : s.length ≤ 990) {V : (Int × List UInt8 × Int × Bool × List (Int × Int × List UInt8)) → Option Obj} {L : (Int × Int × List UInt8 × Int × Bool × List (Int × Int × List UInt8)) → Option Obj} (d l : Nat) (hl : l ≤ 100) (deep : Int) (h0 : 0 ≤ deep) (h30 : deep ≤ 30)
    (hV : ∀ (n : Nat) (o : Os), n ≤ s.length → o.length ≤ 30 → ∃ v, V (deep, s, (n : Int), false, o) = some v ∧ Res s 30 (S rn nm (d + 1) 7 (s.drop n) o) v)
    (hL : ∀ (k n : Nat) (o : Os), 1 ≤ k → k ≤ 7 → n ≤ s.length → o.length ≤ 30 → ∃ v, L ((k : Int), deep + 1, s, (n : Int), false, o) = some v ∧ Res s 30 (S rn nm d k (s.drop n) o) v)
    (n : Nat) (o : Os) (hn : n ≤ s.length) (ho : o.length ≤ 30) : ∃ v, F80b V L K ((l : Int), deep, s, (n : Int), false, o) = some v ∧ Res s 30 (S rn nm (d + 1) l (s.drop n) o) v := by
  obtain ⟨v, e1, e2⟩ := hV n o hn ho
  unfold F80b
  dsimp only
  rw [e1]
  simp only [bindO_s]
  rw [S_seven] at e2
  show ∃ v', _ ∧ Res s 30 ((valB rn nm (S rn nm d 1) (S rn nm d 7) (s.drop n) o).bind _) v'
  cases hx : valB rn nm (S rn nm d 1) (S rn nm d 7) (s.drop n) o with
  | none =>
    rw [hx] at e2
    obtain ⟨m, o', q1, rfl, q3⟩ := e2
    obtain ⟨K', rfl⟩ : ∃ x, K = x + 1 := ⟨K - 1, by omega⟩
    exact ⟨(s, (m : Int), true, o'), rfl, m, o', q1, rfl, q3⟩
  | some t =>
    rw [hx] at e2
    obtain ⟨m, q1, q2, rfl, q4⟩ := e2
    obtain ⟨z, z1, z2⟩ := spec_loop hK hs d l hl deep h0 h30 hL (s.length - m) (t.1.length + 1) K m t.2 q1 (Nat.le_refl _) q4 (by omega) (by rw [← q2, List.length_drop]; omega)
    rw [z1]
    simp only [bindO_s]
    rw [cs_un]
    rw [q2] at z2
    exact ⟨_, rfl, z2⟩
theorem spec_all (hK : 1000 < K) (hs : s.length ≤ 990) : ∀ d : Nat, d ≤ 30 →
    (∀ R, 2 * d + 1 ≤ R → ∀ (n : Nat) (o : Os), n ≤ s.length → o.length ≤ 30 → ∃ v, R104 K R (31 - (d : Int), s, (n : Int), false, o) = some v ∧ Res s 30 (S rn nm d 7 (s.drop n) o) v) ∧
    (∀ R, 2 * d + 2 ≤ R → ∀ (k n : Nat) (o : Os), 1 ≤ k → k ≤ 7 → n ≤ s.length → o.length ≤ 30 → ∃ v, R80 K R ((k : Int), 31 - (d : Int), s, (n : Int), false, o) = some v ∧ Res s 30 (S rn nm d k (s.drop n) o) v)
  | 0, _ => by
    have bad : ∀ R, 1 ≤ R → ∀ (n : Nat) (o : Os), R104 K R (31 - ((0 : Nat) : Int), s, (n : Int), false, o) = some (s, (n : Int), true, o) := fun R hR n o => by
      obtain ⟨R, rfl⟩ : ∃ x, R = x + 1 := ⟨R - 1, by omega⟩
      rfl
    refine ⟨fun R hR n o hn ho => ⟨_, bad R (by omega) n o, n, o, hn, rfl, ho⟩, fun R hR k n o h1 h7 hn ho => ?_⟩
    obtain ⟨R, rfl⟩ : ∃ x, R = x + 1 := ⟨R - 1, by omega⟩
    obtain ⟨K', rfl⟩ : ∃ x, K = x + 1 := ⟨K - 1, by omega⟩
    refine ⟨(s, (n : Int), true, o), ?_, n, o, hn, rfl, ho⟩
    show F80b (R104 _ R) (R80 _ R) _ _ = _
    unfold F80b
    dsimp only
    rw [bad R (by omega)]
    rfl
  | d + 1, hd => by
    obtain ⟨ihV, ihL⟩ := spec_all hK hs d (by omega)
    have ed : 31 - ((d + 1 : Nat) : Int) + 1 = 31 - (d : Int) := by omega
    have val : ∀ R, 2 * (d + 1) + 1 ≤ R → ∀ (n : Nat) (o : Os), n ≤ s.length → o.length ≤ 30 → ∃ v, R104 K R (31 - ((d + 1 : Nat) : Int), s, (n : Int), false, o) = some v ∧ Res s 30 (S rn nm (d + 1) 7 (s.drop n) o) v := fun R hR n o hn ho => by
      obtain ⟨R, rfl⟩ : ∃ x, R = x + 1 := ⟨R - 1, by omega⟩
      rw [S_seven]
      exact spec_value (V := R104 K R) (L := R80 K R) hK hs (31 - ((d + 1 : Nat) : Int)) (by omega) (by omega) (fun n o hn ho => by rw [ed]; exact ihV R (by omega) n o hn ho)
        (fun n o hn ho => by rw [ed]; exact ihL R (by omega) 1 n o (by omega) (by omega) hn ho) n o hn ho
    refine ⟨val, fun R hR k n o h1 h7 hn ho => ?_⟩
    obtain ⟨R, rfl⟩ : ∃ x, R = x + 1 := ⟨R - 1, by omega⟩
    exact spec_level (V := R104 K R) (L := R80 K R) hK hs d k (by omega) (31 - ((d + 1 : Nat) : Int)) (by omega) (by omega) (fun n o hn ho => val R (by omega) n o hn ho)
      (fun k n o h1 h7 hn ho => by rw [ed]; exact ihL R (by omega) k n o h1 h7 hn ho) n o hn ho
end
end Go.U.Tryz
