/- A part of the proof: what functions of the program do, walked. No condition. -/
import Derived.Test.YthiglohhocelfaaVT3
set_option linter.unusedVariables false
set_option linter.unusedSimpArgs false
namespace Go.V.Try
open Go Go.V Go.Proofs.Try
set_option maxRecDepth 20000
set_option linter.unusedSimpArgs false

/-- Rows of pairs, read. -/
def unP : List (List D) → Option (List (List UInt8 × Int))
  | [] => some []
  | [.str t, .i .i64 n] :: l => (unP l).map ((t, n) :: ·)
  | _ => none
theorem unP_map (ps : List (List UInt8 × Int)) : unP (ps.map pD) = some ps := by
  induction ps with
  | nil => rfl
  | cons p ps ih => simp [pD, unP] at *; rw [ih]
theorem unP_inv {els : List (List D)} {ps : List (List UInt8 × Int)} (h : unP els = some ps) : els = ps.map pD := by
  induction els generalizing ps with
  | nil => simp [unP] at h; subst h; rfl
  | cons e els ih =>
    unfold unP at h
    split at h
    · rename_i e0; cases e0
    · rename_i t n l e0
      cases e0
      cases hl : unP els with
      | none => rw [hl] at h; cases h
      | some qs => rw [hl] at h; cases h; rw [ih hl]; rfl
    · cases h

abbrev R (ps : List (List UInt8 × Int)) : SV := .d (.rov 2 (ps.map pD))
abbrev lim : Nat := 6000000000000

def F15 : List SV → Option (List SV)
  | [.d (.rov 2 els)] => match unP els with
    | some ps => if ps.length < lim then some [R ps] else none
    | none => none
  | _ => none
theorem inv15 {ds rs : List SV} (h : F15 ds = some rs) : ∃ ps, ds = [R ps] ∧ ps.length < lim ∧ rs = [R ps] := by
  unfold F15 at h
  split at h
  · split at h
    · rename_i ps hu
      split at h
      · rename_i hl
        cases h; exact ⟨ps, by rw [unP_inv hu], hl, rfl⟩
      · cases h
    · cases h
  · cases h

/-- The first i rows are made, the others empty. -/
def half (ps : List (List UInt8 × Int)) (i : Nat) : List (List D) := (ps.map pD).take i ++ List.replicate (ps.length - i) [.str [], .i .i64 0]

theorem half_zero (ps : List (List UInt8 × Int)) : half ps 0 = List.replicate ps.length [.str [], .i .i64 0] := by simp [half]
theorem half_all (ps : List (List UInt8 × Int)) : half ps ps.length = ps.map pD := by simp [half]; exact List.take_of_length_le (by simp)
theorem half_len (ps : List (List UInt8 × Int)) (i : Nat) (h : i ≤ ps.length) : (half ps i).length = ps.length := by simp [half]; omega
theorem half_get (ps : List (List UInt8 × Int)) (i : Nat) (h : i < ps.length) : (half ps i)[i]? = some [.str [], .i .i64 0] := by
  unfold half
  have h1 : ((ps.map pD).take i).length = i := by simp; omega
  rw [List.getElem?_append_right (by omega), h1, Nat.sub_self, List.getElem?_replicate, if_pos (by omega)]
theorem half_set (ps : List (List UInt8 × Int)) (i : Nat) (h : i < ps.length) : (half ps i).set i (pD ps[i]) = half ps (i + 1) := by
  unfold half
  have h1 : ((ps.map pD).take i).length = i := by simp; omega
  have h2 : ps.length - i = (ps.length - (i + 1)) + 1 := by omega
  rw [List.set_append_right _ _ (by omega), h1, Nat.sub_self, h2, List.replicate_succ, List.set_cons_zero, List.take_add_one, List.getElem?_map, List.getElem?_eq_getElem h]
  simp

theorem w15 (ps : List (List UInt8 × Int)) (hps : ps.length < lim) : WP prog (tab [(39, dataF F39, [])]) 0 (f15.body.getD .skip) (datQ prog [.tmp 2] [R ps]) (st0 [R ps] [] 23) := by
  refine ⟨?_⟩
  simp only [f15, Option.getD_some]
  have hlen : ((ps.map pD).length : Int) = (ps.length : Int) := by simp
  have hmk : 24 * ps.length ≤ 281474976710656 := by simp [lim] at hps; omega
  simp only [hlen, hmk, makeS_some, nd_makeSlice _ _ _ _ _ _ _ _ _ _ _ _ t25.2.1, t61, t9, t3, t2, t39, t22, t25, vx, vy, vz, vw, vv, need_putO_if, need_putO_if', need_if, need_putU_if, need_if', if_false, if_true, Bool.false_eq_true, and_true, true_and, and_self, eq_self, Nat.reduceEqDiff, reduceIte, Nat.reduceLT, opCall_dataF, Bool.and_true, Bool.and_self, Nat.reduceMul, Nat.reduceAdd, Nat.reduceSub, Nat.reduceLeDiff, Nat.le_refl, Nat.zero_le, callT_some]
  refine loop_rule (fun m st => ∃ i, i + m = ps.length ∧ st = ⟨[R ps, U, .d .emp, .sl 8000 0 ps.length, I i, U, U, U, U, U, U, U, U, U, U, U, U, U, U, U, U, U, U], hpL [(8000, ⟨2, false, .row (half ps i)⟩)]⟩)
      ps.length ⟨[R ps, U, .d .emp, .sl 8000 0 ps.length, I 0, U, U, U, U, U, U, U, U, U, U, U, U, U, U, U, U, U, U], hpL [(8000, ⟨2, false, .row (half ps 0)⟩)]⟩ (by rw [half_zero]; exact Weak.slots (by simp [leL])) ⟨0, by omega, rfl⟩ ?_
  rintro m st k ⟨i, him, rfl⟩ hk
  simp only [hlen, t61, t9, t3, t22, t39, t25, vx, vy, vz, vw, vv, need_putO_if, need_putO_if', need_if, need_putU_if, need_if', if_false, if_true, Bool.false_eq_true, and_true, true_and, and_self, eq_self, Nat.reduceEqDiff, reduceIte, Nat.reduceLT, opCall_dataF, Bool.and_true, Bool.and_self, Nat.reduceMul, Nat.reduceAdd, Nat.reduceSub, Nat.reduceLeDiff, Nat.le_refl, Nat.zero_le, callT_some]
  refine cond_split _ (fun hc => ?_) (fun hc => ?_)
  · simp only [decide_eq_true_eq] at hc
    have hi : i < ps.length := by omega
    have h1 : (ps.map pD)[i]? = some (pD ps[i]) := by simp [hi]
    have h2 : (0 : Int) ≤ (i : Int) := by omega
    have h3 := half_get ps i hi
    have h4 := half_set ps i hi
    have hw : IntKind.wrap .i64 ((i : Int) + 1) = ((i + 1 : Nat) : Int) := by simp [lim] at hps; simp [IntKind.wrap, IntKind.bits, IntKind.signed]; omega
    simp only [pD] at h1 h4
    simp only [h1, h2, h3, h4, hi, hw, F39, t61, t9, t3, t22, t39, t25, vx, vy, vz, vw, vv, need_putO_if, need_putO_if', need_if, need_putU_if, need_if', if_false, if_true, Bool.false_eq_true, and_true, true_and, and_self, eq_self, Nat.reduceEqDiff, reduceIte, Nat.reduceLT, opCall_dataF, Bool.and_true, Bool.and_self, Nat.reduceMul, Nat.reduceAdd, Nat.reduceSub, Nat.reduceLeDiff, Nat.le_refl, Nat.zero_le, callT_some]
    cases m with
    | zero => omega
    | succ m => exact hk _ _ m rfl (Weak.slots (fr' := [R ps, U, .d .emp, .sl 8000 0 ps.length, I ((i + 1 : Nat) : Int), U, U, U, U, U, U, U, U, U, U, U, U, U, U, U, U, U, U]) (by simp [leL])) ⟨i + 1, by omega, rfl⟩
  · simp only [hlen, t61, t9, t3, t22, t39, t25, vx, vy, vz, vw, vv, need_putO_if, need_putO_if', need_if, need_putU_if, need_if', if_false, if_true, Bool.false_eq_true, and_true, true_and, and_self, eq_self, Nat.reduceEqDiff, reduceIte, Nat.reduceLT, opCall_dataF, Bool.and_true, Bool.and_self, Nat.reduceMul, Nat.reduceAdd, Nat.reduceSub, Nat.reduceLeDiff, Nat.le_refl, Nat.zero_le, callT_some]
    have hi : i = ps.length := by simp at hc; omega
    subst hi
    rw [half_all]
    refine dat_rw rfl (Weak.frz (b := 8000) (s := 2) (mv := false) (els := ps.map pD) rfl (by omega) (fun j hj => by omega)) ?_
    simp [resS, ev, St.frz, SV.frz]
    exact List.take_of_length_le (by simp)
theorem con15 : Con prog 15 (dataF F15) := by
  refine con_data (T := tab [(39, dataF F39, [])]) (nt := 23) (rvs := [.tmp 2]) func15 (by kernel_rfl) rfl rfl rfl (tabOk_cons con39 tabOk_nil) fun ds rs h hp => ?_
  obtain ⟨ps, rfl, hl, rfl⟩ := inv15 h
  exact w15 ps hl
end Go.V.Try
