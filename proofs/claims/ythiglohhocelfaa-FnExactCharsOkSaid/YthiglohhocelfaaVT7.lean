/- A part of the proof: what functions of the program do, walked. No condition. -/
import Derived.Test.YthiglohhocelfaaVT6
set_option linter.unusedVariables false
set_option linter.unusedSimpArgs false
namespace Go.V.Try
open Go Go.V Go.Proofs.Try
set_option maxRecDepth 20000
set_option linter.unusedSimpArgs false

theorem less_not (a b : List UInt8) : (Op.bytesLess a b || decide (a = b)) = !Op.bytesLess b a := by
  induction a generalizing b with
  | nil => cases b <;> simp [Op.bytesLess]
  | cons x xs ih =>
    cases b with
    | nil => simp [Op.bytesLess]
    | cons y ys =>
      simp only [Op.bytesLess]
      by_cases h : x = y
      · subst h
        have := ih ys
        have h1 : ¬ x < x := by rw [UInt8.lt_iff_toNat_lt]; omega
        simp [h1] at *
        exact this
      · have h2 : ¬ y = x := fun e => h e.symm
        have h3 : x.toNat ≠ y.toNat := fun e => h (UInt8.toNat_inj.1 e)
        by_cases h4 : x < y
        · have h5 : ¬ y < x := by rw [UInt8.lt_iff_toNat_lt] at *; omega
          simp [h, h2, h4, h5]
        · have h5 : y < x := by rw [UInt8.lt_iff_toNat_lt] at *; omega
          simp [h, h2, h4, h5]

theorem w16 (ps : List (List UInt8 × Int)) (hps : ps.length < lim) : WP prog (tab [(40, dataF F71, []), (41, dataF F38, [])]) 0 (f16.body.getD .skip) (datQ prog [.tmp 2] [B (chars ps)]) (st0 [R ps] [] 42) := by
  refine ⟨?_⟩
  simp only [f16, Option.getD_some]
  have hlen : ((ps.map pD).length : Int) = (ps.length : Int) := by simp
  simp only [hlen, t61, t9, t3, t2, t4, t22, t39, t25, vx, vy, vz, vw, vv, need_putO_if, need_putO_if', need_if, need_putU_if, need_if', if_false, if_true, Bool.false_eq_true, and_true, true_and, and_self, eq_self, Nat.reduceEqDiff, reduceIte, Nat.reduceLT, opCall_dataF, Bool.and_true, Bool.and_self, Nat.reduceMul, Nat.reduceAdd, Nat.reduceSub, Nat.reduceLeDiff, Nat.le_refl, Nat.zero_le, callT_some, List.replicate_succ]
  refine loop_rule (fun m st => ∃ i, i + m = ps.length ∧ (∀ j, j < i → okAt ps j) ∧ st = ⟨R ps :: U :: B false :: U :: U :: R ps :: I ps.length :: I i :: List.replicate 34 U, hpL []⟩)
      ps.length ⟨R ps :: U :: B false :: U :: U :: R ps :: I ps.length :: I 0 :: List.replicate 34 U, hpL []⟩ (Weak.slots (by simp only [leL, vx, vy, vz, vw, vv, need_putO_if, need_putO_if', need_if, need_putU_if, need_if', if_false, if_true, Bool.false_eq_true, and_true, true_and, and_self, eq_self, Nat.reduceEqDiff, reduceIte, Nat.reduceLT, opCall_dataF, Bool.and_true, Bool.and_self, Nat.reduceMul, Nat.reduceAdd, Nat.reduceSub, Nat.reduceLeDiff, Nat.le_refl, Nat.zero_le, callT_some]; simp)) ⟨0, by omega, by omega, rfl⟩ ?_
  rintro m st k ⟨i, him, hok, rfl⟩ hk
  simp only [hlen, t61, t9, t3, t2, t4, t22, t39, t25, vx, vy, vz, vw, vv, need_putO_if, need_putO_if', need_if, need_putU_if, need_if', if_false, if_true, Bool.false_eq_true, and_true, true_and, and_self, eq_self, Nat.reduceEqDiff, reduceIte, Nat.reduceLT, opCall_dataF, Bool.and_true, Bool.and_self, Nat.reduceMul, Nat.reduceAdd, Nat.reduceSub, Nat.reduceLeDiff, Nat.le_refl, Nat.zero_le, callT_some]
  refine cond_split _ (fun hc => ?_) (fun hc => ?_)
  · simp only [decide_eq_true_eq] at hc
    have hi : i < ps.length := by omega
    have h1 : (ps.map pD)[i]? = some (pD ps[i]) := by simp [hi]
    have h2 : (0 : Int) ≤ (i : Int) := by omega
    have hg : ps.getD i ([], 0) = ps[i] := by simp [List.getD, hi]
    have hw : IntKind.wrap .i64 ((i : Int) + 1) = ((i + 1 : Nat) : Int) := by simp [lim] at hps; simp [IntKind.wrap, IntKind.bits, IntKind.signed]; omega
    simp only [pD] at h1
    have fin : ¬ okAt ps i → chars ps = false := chars_bad hi
    have good : okAt ps i → ∀ j, j < i + 1 → okAt ps j := fun h j hj => by
      rcases Nat.lt_or_ge j i with h3 | h3
      · exact hok j h3
      · have : j = i := by omega
        subst this; exact h
    simp only [h1, h2, t61, t9, t3, t2, t4, t22, t39, t25, vx, vy, vz, vw, vv, need_putO_if, need_putO_if', need_if, need_putU_if, need_if', if_false, if_true, Bool.false_eq_true, and_true, true_and, and_self, eq_self, Nat.reduceEqDiff, reduceIte, Nat.reduceLT, opCall_dataF, Bool.and_true, Bool.and_self, Nat.reduceMul, Nat.reduceAdd, Nat.reduceSub, Nat.reduceLeDiff, Nat.le_refl, Nat.zero_le, callT_some]
    refine draw p16_4 (by kernel_rfl) (by kernel_rfl) (by kernel_rfl) ?_
    by_cases c1 : 1 ≤ ((ps[i].1.length : Nat) : Int) ∧ ((ps[i].1.length : Nat) : Int) ≤ 4
    · have d1 := decide_eq_true c1
      by_cases c3 : 0 ≤ ps[i].2 ∧ ps[i].2 ≤ 255
      · have d3 := decide_eq_true c3
        by_cases c4 : (0 : Int) < (i : Int)
        · have d4 := decide_eq_true c4
          have h4 : (ps.map pD)[i - 1]? = some (pD ps[i - 1]) := by rw [List.getElem?_map, List.getElem?_eq_getElem (by omega)]; rfl
          have hv : IntKind.wrap .i64 ((i : Int) - 1) = ((i - 1 : Nat) : Int) := by simp [lim] at hps; simp [IntKind.wrap, IntKind.bits, IntKind.signed]; omega
          have h5 : (0 : Int) ≤ ((i - 1 : Nat) : Int) := by omega
          have h6 : i - 1 < ps.length := by omega
          have hg' : ps.getD (i - 1) ([], 0) = ps[i - 1] := by simp [List.getD, h6]
          simp only [pD] at h4
          cases c5 : Op.bytesLess ps[i - 1].1 ps[i].1 with
          | false =>
            simp only [p16_4, h1, h2, hlen, F38, F71, bs_leq, d1, d3, d4, h4, h5, hv, less_not, c5, t61, t9, t3, t2, t4, t22, t39, t25, vx, vy, vz, vw, vv, need_putO_if, need_putO_if', need_if, need_putU_if, need_if', if_false, if_true, Bool.false_eq_true, and_true, true_and, and_self, eq_self, Nat.reduceEqDiff, reduceIte, Nat.reduceLT, opCall_dataF, Bool.and_true, Bool.and_self, Nat.reduceMul, Nat.reduceAdd, Nat.reduceSub, Nat.reduceLeDiff, Nat.le_refl, Nat.zero_le, callT_some]
            refine dat_r rfl ?_
            rw [fin (by unfold okAt; rw [hg, hg', c5]; rintro ⟨_, _, _, _, h | h⟩; (· omega); (· cases h))]
            simp only [resS, vx, vy, vz, vw, vv, need_putO_if, need_putO_if', need_if, need_putU_if, need_if', if_false, if_true, Bool.false_eq_true, and_true, true_and, and_self, eq_self, Nat.reduceEqDiff, reduceIte, Nat.reduceLT, opCall_dataF, Bool.and_true, Bool.and_self, Nat.reduceMul, Nat.reduceAdd, Nat.reduceSub, Nat.reduceLeDiff, Nat.le_refl, Nat.zero_le, callT_some]
          | true =>
            simp only [p16_4, h1, h2, hlen, F38, F71, bs_leq, d1, d3, d4, h4, h5, hv, less_not, c5, t61, t9, t3, t2, t4, t22, t39, t25, vx, vy, vz, vw, vv, need_putO_if, need_putO_if', need_if, need_putU_if, need_if', if_false, if_true, Bool.false_eq_true, and_true, true_and, and_self, eq_self, Nat.reduceEqDiff, reduceIte, Nat.reduceLT, opCall_dataF, Bool.and_true, Bool.and_self, Nat.reduceMul, Nat.reduceAdd, Nat.reduceSub, Nat.reduceLeDiff, Nat.le_refl, Nat.zero_le, callT_some]
            simp only [hw, t61, t9, t3, t2, t4, t22, t39, t25, vx, vy, vz, vw, vv, need_putO_if, need_putO_if', need_if, need_putU_if, need_if', if_false, if_true, Bool.false_eq_true, and_true, true_and, and_self, eq_self, Nat.reduceEqDiff, reduceIte, Nat.reduceLT, opCall_dataF, Bool.and_true, Bool.and_self, Nat.reduceMul, Nat.reduceAdd, Nat.reduceSub, Nat.reduceLeDiff, Nat.le_refl, Nat.zero_le, callT_some]
            cases m with
            | zero => omega
            | succ m => exact hk _ ⟨R ps :: U :: B false :: U :: U :: R ps :: I ps.length :: I ((i + 1 : Nat) : Int) :: List.replicate 34 U, hpL []⟩ m rfl (Weak.drop (by simp only [leL, vx, vy, vz, vw, vv, need_putO_if, need_putO_if', need_if, need_putU_if, need_if', if_false, if_true, Bool.false_eq_true, and_true, true_and, and_self, eq_self, Nat.reduceEqDiff, reduceIte, Nat.reduceLT, opCall_dataF, Bool.and_true, Bool.and_self, Nat.reduceMul, Nat.reduceAdd, Nat.reduceSub, Nat.reduceLeDiff, Nat.le_refl, Nat.zero_le, callT_some]; simp) (fun _ _ h => by cases h)) ⟨i + 1, by omega, good (by unfold okAt; rw [hg, hg', c5]; exact ⟨by omega, by omega, by omega, by omega, .inr rfl⟩), rfl⟩
        · have d4 := decide_eq_false c4
          simp only [p16_4, h1, h2, hlen, F38, F71, bs_leq, d1, d3, d4, t61, t9, t3, t2, t4, t22, t39, t25, vx, vy, vz, vw, vv, need_putO_if, need_putO_if', need_if, need_putU_if, need_if', if_false, if_true, Bool.false_eq_true, and_true, true_and, and_self, eq_self, Nat.reduceEqDiff, reduceIte, Nat.reduceLT, opCall_dataF, Bool.and_true, Bool.and_self, Nat.reduceMul, Nat.reduceAdd, Nat.reduceSub, Nat.reduceLeDiff, Nat.le_refl, Nat.zero_le, callT_some]
          simp only [hw, t61, t9, t3, t2, t4, t22, t39, t25, vx, vy, vz, vw, vv, need_putO_if, need_putO_if', need_if, need_putU_if, need_if', if_false, if_true, Bool.false_eq_true, and_true, true_and, and_self, eq_self, Nat.reduceEqDiff, reduceIte, Nat.reduceLT, opCall_dataF, Bool.and_true, Bool.and_self, Nat.reduceMul, Nat.reduceAdd, Nat.reduceSub, Nat.reduceLeDiff, Nat.le_refl, Nat.zero_le, callT_some]
          cases m with
          | zero => omega
          | succ m => exact hk _ ⟨R ps :: U :: B false :: U :: U :: R ps :: I ps.length :: I ((i + 1 : Nat) : Int) :: List.replicate 34 U, hpL []⟩ m rfl (Weak.drop (by simp only [leL, vx, vy, vz, vw, vv, need_putO_if, need_putO_if', need_if, need_putU_if, need_if', if_false, if_true, Bool.false_eq_true, and_true, true_and, and_self, eq_self, Nat.reduceEqDiff, reduceIte, Nat.reduceLT, opCall_dataF, Bool.and_true, Bool.and_self, Nat.reduceMul, Nat.reduceAdd, Nat.reduceSub, Nat.reduceLeDiff, Nat.le_refl, Nat.zero_le, callT_some]; simp) (fun _ _ h => by cases h)) ⟨i + 1, by omega, good (by unfold okAt; rw [hg]; exact ⟨by omega, by omega, by omega, by omega, .inl (by omega)⟩), rfl⟩
      · have d3 := decide_eq_false c3
        simp only [p16_4, h1, h2, hlen, F38, F71, bs_leq, d1, d3, t61, t9, t3, t2, t4, t22, t39, t25, vx, vy, vz, vw, vv, need_putO_if, need_putO_if', need_if, need_putU_if, need_if', if_false, if_true, Bool.false_eq_true, and_true, true_and, and_self, eq_self, Nat.reduceEqDiff, reduceIte, Nat.reduceLT, opCall_dataF, Bool.and_true, Bool.and_self, Nat.reduceMul, Nat.reduceAdd, Nat.reduceSub, Nat.reduceLeDiff, Nat.le_refl, Nat.zero_le, callT_some]
        refine dat_r rfl ?_
        rw [fin (by unfold okAt; rw [hg]; omega)]
        simp only [resS, vx, vy, vz, vw, vv, need_putO_if, need_putO_if', need_if, need_putU_if, need_if', if_false, if_true, Bool.false_eq_true, and_true, true_and, and_self, eq_self, Nat.reduceEqDiff, reduceIte, Nat.reduceLT, opCall_dataF, Bool.and_true, Bool.and_self, Nat.reduceMul, Nat.reduceAdd, Nat.reduceSub, Nat.reduceLeDiff, Nat.le_refl, Nat.zero_le, callT_some]
    · have d1 := decide_eq_false c1
      simp only [p16_4, h1, h2, hlen, F38, F71, bs_leq, d1, t61, t9, t3, t2, t4, t22, t39, t25, vx, vy, vz, vw, vv, need_putO_if, need_putO_if', need_if, need_putU_if, need_if', if_false, if_true, Bool.false_eq_true, and_true, true_and, and_self, eq_self, Nat.reduceEqDiff, reduceIte, Nat.reduceLT, opCall_dataF, Bool.and_true, Bool.and_self, Nat.reduceMul, Nat.reduceAdd, Nat.reduceSub, Nat.reduceLeDiff, Nat.le_refl, Nat.zero_le, callT_some]
      refine dat_r rfl ?_
      rw [fin (by unfold okAt; rw [hg]; omega)]
      simp only [resS, vx, vy, vz, vw, vv, need_putO_if, need_putO_if', need_if, need_putU_if, need_if', if_false, if_true, Bool.false_eq_true, and_true, true_and, and_self, eq_self, Nat.reduceEqDiff, reduceIte, Nat.reduceLT, opCall_dataF, Bool.and_true, Bool.and_self, Nat.reduceMul, Nat.reduceAdd, Nat.reduceSub, Nat.reduceLeDiff, Nat.le_refl, Nat.zero_le, callT_some]
  · simp only [hlen, t61, t9, t3, t2, t4, t22, t39, t25, vx, vy, vz, vw, vv, need_putO_if, need_putO_if', need_if, need_putU_if, need_if', if_false, if_true, Bool.false_eq_true, and_true, true_and, and_self, eq_self, Nat.reduceEqDiff, reduceIte, Nat.reduceLT, opCall_dataF, Bool.and_true, Bool.and_self, Nat.reduceMul, Nat.reduceAdd, Nat.reduceSub, Nat.reduceLeDiff, Nat.le_refl, Nat.zero_le, callT_some]
    have hi : i = ps.length := by simp at hc; omega
    subst hi
    refine dat_r rfl ?_
    rw [chars_all hok]
    simp only [resS, vx, vy, vz, vw, vv, need_putO_if, need_putO_if', need_if, need_putU_if, need_if', if_false, if_true, Bool.false_eq_true, and_true, true_and, and_self, eq_self, Nat.reduceEqDiff, reduceIte, Nat.reduceLT, opCall_dataF, Bool.and_true, Bool.and_self, Nat.reduceMul, Nat.reduceAdd, Nat.reduceSub, Nat.reduceLeDiff, Nat.le_refl, Nat.zero_le, callT_some]
theorem con16 : Con prog 16 (dataF F14) := by
  refine con_data (T := tab [(40, dataF F71, []), (41, dataF F38, [])]) (nt := 42) (rvs := [.tmp 2]) func16 (by kernel_rfl) rfl rfl rfl (tabOk_cons con40 (tabOk_cons con41 tabOk_nil)) fun ds rs h hp => ?_
  obtain ⟨ps, rfl, hl, rfl⟩ := inv14 h
  exact w16 ps hl
end Go.V.Try
