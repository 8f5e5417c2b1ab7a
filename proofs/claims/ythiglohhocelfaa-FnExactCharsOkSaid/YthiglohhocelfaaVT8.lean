/- A part of the proof: what functions of the program do, walked. No condition. -/
import Derived.Test.YthiglohhocelfaaVT7
set_option linter.unusedVariables false
set_option linter.unusedSimpArgs false
namespace Go.V.Try
open Go Go.V Go.Proofs.Try
set_option maxRecDepth 20000
set_option linter.unusedSimpArgs false

def F17 : List SV → Option (List SV)
  | [.d (.rov 2 els), .d (.rov 2 els')] => match unP els, unP els' with
    | some ps, some qs => if ps.length < lim ∧ qs.length < lim then some [B (decide (ps = qs))] else none
    | _, _ => none
  | _ => none
theorem inv17 {ds rs : List SV} (h : F17 ds = some rs) : ∃ ps qs, ds = [R ps, R qs] ∧ ps.length < lim ∧ qs.length < lim ∧ rs = [B (decide (ps = qs))] := by
  unfold F17 at h
  split at h
  · split at h
    · rename_i ps qs hu hv
      split at h
      · rename_i hl
        cases h; exact ⟨ps, qs, by rw [unP_inv hu, unP_inv hv], hl.1, hl.2, rfl⟩
      · cases h
    · cases h
  · cases h

theorem w17 (ps qs : List (List UInt8 × Int)) (hps : ps.length < lim) (hqs : qs.length < lim) : WP prog (tab [(42, dataF F42, [])]) 0 (f17.body.getD .skip) (datQ prog [.tmp 4] [B (decide (ps = qs))]) (st0 [R ps, R qs] [] 27) := by
  refine ⟨?_⟩
  simp only [f17, Option.getD_some]
  have hlen : ((ps.map pD).length : Int) = (ps.length : Int) := by simp
  have hlen' : ((qs.map pD).length : Int) = (qs.length : Int) := by simp
  simp only [hlen, hlen', t61, t9, t3, t2, t4, t22, t39, t25, vx, vy, vz, vw, vv, need_putO_if, need_putO_if', need_if, need_putU_if, need_if', if_false, if_true, Bool.false_eq_true, and_true, true_and, and_self, eq_self, Nat.reduceEqDiff, reduceIte, Nat.reduceLT, opCall_dataF, Bool.and_true, Bool.and_self, Nat.reduceMul, Nat.reduceAdd, Nat.reduceSub, Nat.reduceLeDiff, Nat.le_refl, Nat.zero_le, callT_some, st0_nil]
  refine cond_split _ (fun hc => ?_) (fun hc => ?_)
  · simp only [t61, t9, t3, t2, t4, t22, t39, t25, vx, vy, vz, vw, vv, need_putO_if, need_putO_if', need_if, need_putU_if, need_if', if_false, if_true, Bool.false_eq_true, and_true, true_and, and_self, eq_self, Nat.reduceEqDiff, reduceIte, Nat.reduceLT, opCall_dataF, Bool.and_true, Bool.and_self, Nat.reduceMul, Nat.reduceAdd, Nat.reduceSub, Nat.reduceLeDiff, Nat.le_refl, Nat.zero_le, callT_some]
    refine dat_r rfl ?_
    simp only [resS, vx, vy, vz, vw, vv, need_putO_if, need_putO_if', need_if, need_putU_if, need_if', if_false, if_true, Bool.false_eq_true, and_true, true_and, and_self, eq_self, Nat.reduceEqDiff, reduceIte, Nat.reduceLT, opCall_dataF, Bool.and_true, Bool.and_self, Nat.reduceMul, Nat.reduceAdd, Nat.reduceSub, Nat.reduceLeDiff, Nat.le_refl, Nat.zero_le, callT_some]
    have : ¬ ps = qs := by rintro rfl; simp at hc
    simp [this]
  · simp only [t61, t9, t3, t2, t4, t22, t39, t25, vx, vy, vz, vw, vv, need_putO_if, need_putO_if', need_if, need_putU_if, need_if', if_false, if_true, Bool.false_eq_true, and_true, true_and, and_self, eq_self, Nat.reduceEqDiff, reduceIte, Nat.reduceLT, opCall_dataF, Bool.and_true, Bool.and_self, Nat.reduceMul, Nat.reduceAdd, Nat.reduceSub, Nat.reduceLeDiff, Nat.le_refl, Nat.zero_le, callT_some]
    have hl : ps.length = qs.length := by simp at hc; omega
    refine loop_rule (fun m st => ∃ i, i + m = ps.length ∧ (∀ j, j < i → ps[j]? = qs[j]?) ∧ st = ⟨R ps :: R qs :: U :: U :: B false :: I i :: List.replicate 21 U, hpL []⟩)
      ps.length ⟨R ps :: R qs :: U :: U :: B false :: I 0 :: List.replicate 21 U, hpL []⟩ (Weak.slots (by simp only [leL, vx, vy, vz, vw, vv, need_putO_if, need_putO_if', need_if, need_putU_if, need_if', if_false, if_true, Bool.false_eq_true, and_true, true_and, and_self, eq_self, Nat.reduceEqDiff, reduceIte, Nat.reduceLT, opCall_dataF, Bool.and_true, Bool.and_self, Nat.reduceMul, Nat.reduceAdd, Nat.reduceSub, Nat.reduceLeDiff, Nat.le_refl, Nat.zero_le, callT_some]; simp)) ⟨0, by omega, by omega, rfl⟩ ?_
    rintro m st k ⟨i, him, hok, rfl⟩ hk
    simp only [hlen, hlen', t61, t9, t3, t2, t4, t22, t39, t25, vx, vy, vz, vw, vv, need_putO_if, need_putO_if', need_if, need_putU_if, need_if', if_false, if_true, Bool.false_eq_true, and_true, true_and, and_self, eq_self, Nat.reduceEqDiff, reduceIte, Nat.reduceLT, opCall_dataF, Bool.and_true, Bool.and_self, Nat.reduceMul, Nat.reduceAdd, Nat.reduceSub, Nat.reduceLeDiff, Nat.le_refl, Nat.zero_le, callT_some]
    refine cond_split _ (fun hc => ?_) (fun hc => ?_)
    · simp only [decide_eq_true_eq] at hc
      have hi : i < ps.length := by omega
      have hi' : i < qs.length := by omega
      have h1 : (ps.map pD)[i]? = some (pD ps[i]) := by simp [hi]
      have h1' : (qs.map pD)[i]? = some (pD qs[i]) := by simp [hi']
      have h2 : (0 : Int) ≤ (i : Int) := by omega
      have hw : IntKind.wrap .i64 ((i : Int) + 1) = ((i + 1 : Nat) : Int) := by simp [lim] at hps; simp [IntKind.wrap, IntKind.bits, IntKind.signed]; omega
      simp only [pD] at h1 h1'
      simp only [t61, t9, t3, t2, t4, t22, t39, t25, vx, vy, vz, vw, vv, need_putO_if, need_putO_if', need_if, need_putU_if, need_if', if_false, if_true, Bool.false_eq_true, and_true, true_and, and_self, eq_self, Nat.reduceEqDiff, reduceIte, Nat.reduceLT, opCall_dataF, Bool.and_true, Bool.and_self, Nat.reduceMul, Nat.reduceAdd, Nat.reduceSub, Nat.reduceLeDiff, Nat.le_refl, Nat.zero_le, callT_some]
      refine draw p17_6 (by kernel_rfl) (by kernel_rfl) (by kernel_rfl) ?_
      by_cases c1 : ps[i].1 = qs[i].1 ∧ ps[i].2 = qs[i].2
      · have d1 := decide_eq_true c1
        simp only [p17_6, h1, h1', h2, F42, d1, t61, t9, t3, t2, t4, t22, t39, t25, vx, vy, vz, vw, vv, need_putO_if, need_putO_if', need_if, need_putU_if, need_if', if_false, if_true, Bool.false_eq_true, and_true, true_and, and_self, eq_self, Nat.reduceEqDiff, reduceIte, Nat.reduceLT, opCall_dataF, Bool.and_true, Bool.and_self, Nat.reduceMul, Nat.reduceAdd, Nat.reduceSub, Nat.reduceLeDiff, Nat.le_refl, Nat.zero_le, callT_some]
        simp only [hw, t61, t9, t3, t2, t4, t22, t39, t25, vx, vy, vz, vw, vv, need_putO_if, need_putO_if', need_if, need_putU_if, need_if', if_false, if_true, Bool.false_eq_true, and_true, true_and, and_self, eq_self, Nat.reduceEqDiff, reduceIte, Nat.reduceLT, opCall_dataF, Bool.and_true, Bool.and_self, Nat.reduceMul, Nat.reduceAdd, Nat.reduceSub, Nat.reduceLeDiff, Nat.le_refl, Nat.zero_le, callT_some]
        cases m with
        | zero => omega
        | succ m => exact hk _ _ m rfl (Weak.slots (fr' := R ps :: R qs :: U :: U :: B false :: I ((i + 1 : Nat) : Int) :: List.replicate 21 U) (by simp only [leL, vx, vy, vz, vw, vv, need_putO_if, need_putO_if', need_if, need_putU_if, need_if', if_false, if_true, Bool.false_eq_true, and_true, true_and, and_self, eq_self, Nat.reduceEqDiff, reduceIte, Nat.reduceLT, opCall_dataF, Bool.and_true, Bool.and_self, Nat.reduceMul, Nat.reduceAdd, Nat.reduceSub, Nat.reduceLeDiff, Nat.le_refl, Nat.zero_le, callT_some]; simp)) ⟨i + 1, by omega, fun j hj => by
            rcases Nat.lt_or_ge j i with h3 | h3
            · exact hok j h3
            · have : j = i := by omega
              subst this
              rw [List.getElem?_eq_getElem hi, List.getElem?_eq_getElem hi']
              exact congrArg some (Prod.ext c1.1 c1.2), rfl⟩
      · have d1 := decide_eq_false c1
        simp only [p17_6, h1, h1', h2, F42, d1, t61, t9, t3, t2, t4, t22, t39, t25, vx, vy, vz, vw, vv, need_putO_if, need_putO_if', need_if, need_putU_if, need_if', if_false, if_true, Bool.false_eq_true, and_true, true_and, and_self, eq_self, Nat.reduceEqDiff, reduceIte, Nat.reduceLT, opCall_dataF, Bool.and_true, Bool.and_self, Nat.reduceMul, Nat.reduceAdd, Nat.reduceSub, Nat.reduceLeDiff, Nat.le_refl, Nat.zero_le, callT_some]
        refine dat_r rfl ?_
        simp only [resS, vx, vy, vz, vw, vv, need_putO_if, need_putO_if', need_if, need_putU_if, need_if', if_false, if_true, Bool.false_eq_true, and_true, true_and, and_self, eq_self, Nat.reduceEqDiff, reduceIte, Nat.reduceLT, opCall_dataF, Bool.and_true, Bool.and_self, Nat.reduceMul, Nat.reduceAdd, Nat.reduceSub, Nat.reduceLeDiff, Nat.le_refl, Nat.zero_le, callT_some]
        have : ¬ ps = qs := by rintro rfl; exact c1 ⟨rfl, rfl⟩
        simp [this]
    · simp only [t61, t9, t3, t2, t4, t22, t39, t25, vx, vy, vz, vw, vv, need_putO_if, need_putO_if', need_if, need_putU_if, need_if', if_false, if_true, Bool.false_eq_true, and_true, true_and, and_self, eq_self, Nat.reduceEqDiff, reduceIte, Nat.reduceLT, opCall_dataF, Bool.and_true, Bool.and_self, Nat.reduceMul, Nat.reduceAdd, Nat.reduceSub, Nat.reduceLeDiff, Nat.le_refl, Nat.zero_le, callT_some]
      have hi : i = ps.length := by simp at hc; omega
      refine dat_r rfl ?_
      simp only [resS, vx, vy, vz, vw, vv, need_putO_if, need_putO_if', need_if, need_putU_if, need_if', if_false, if_true, Bool.false_eq_true, and_true, true_and, and_self, eq_self, Nat.reduceEqDiff, reduceIte, Nat.reduceLT, opCall_dataF, Bool.and_true, Bool.and_self, Nat.reduceMul, Nat.reduceAdd, Nat.reduceSub, Nat.reduceLeDiff, Nat.le_refl, Nat.zero_le, callT_some]
      have : ps = qs := List.ext_getElem? fun j => by
        rcases Nat.lt_or_ge j i with h3 | h3
        · exact hok j h3
        · rw [List.getElem?_eq_none (by omega), List.getElem?_eq_none (by omega)]
      simp [this]
theorem con17 : Con prog 17 (dataF F17) := by
  refine con_data (T := tab [(42, dataF F42, [])]) (nt := 27) (rvs := [.tmp 4]) func17 (by kernel_rfl) rfl rfl rfl (tabOk_cons con42 tabOk_nil) fun ds rs h hp => ?_
  obtain ⟨ps, qs, rfl, hl, hl', rfl⟩ := inv17 h
  exact w17 ps qs hl hl'
end Go.V.Try
