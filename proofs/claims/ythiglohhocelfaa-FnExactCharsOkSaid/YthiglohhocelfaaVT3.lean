/- A part of the proof: what functions of the program do, walked. No condition. -/
import Derived.Test.YthiglohhocelfaaVT2
set_option linter.unusedVariables false
set_option linter.unusedSimpArgs false
namespace Go.V.Try
open Go Go.V Go.Proofs.Try
set_option maxRecDepth 20000
set_option linter.unusedSimpArgs false

abbrev A (t : List UInt8) (n : Int) : SV := .agg [.d (.str t), .d (.i .i64 n)]
def F39 : List SV → Option (List SV)
  | [.agg [.d (.str t), .d (.i .i64 n)]] => some [A t n]
  | _ => none
theorem inv39 {ds rs : List SV} (h : F39 ds = some rs) : ∃ t n, ds = [A t n] ∧ rs = [A t n] := by
  unfold F39 at h
  split at h
  · cases h; exact ⟨_, _, rfl, rfl⟩
  · cases h
theorem w39 (t : List UInt8) (n : Int) : WP prog (tab []) 0 (f39.body.getD .skip) (datQ prog [.cell 2 39] [A t n]) (st0 [A t n] [] 11) := by
  refine ⟨?_⟩
  simp only [f39, Option.getD_some]
  simp only [t61, t9, t3, t2, t39, vx, vy, vz, vw, vv, need_putO_if, need_putO_if', need_if, need_putU_if, need_if', if_false, if_true, Bool.false_eq_true, and_true, true_and, and_self, eq_self, Nat.reduceEqDiff, reduceIte, Nat.reduceLT, opCall_dataF, Bool.and_true, Bool.and_self, Nat.reduceMul, Nat.reduceAdd, Nat.reduceSub, Nat.reduceLeDiff, Nat.le_refl, Nat.zero_le, callT_some]
  refine dat_r rfl ?_
  simp only [resS, t61, t9, t3, t2, t39, vx, vy, vz, vw, vv, need_putO_if, need_putO_if', need_if, need_putU_if, need_if', if_false, if_true, Bool.false_eq_true, and_true, true_and, and_self, eq_self, Nat.reduceEqDiff, reduceIte, Nat.reduceLT, opCall_dataF, Bool.and_true, Bool.and_self, Nat.reduceMul, Nat.reduceAdd, Nat.reduceSub, Nat.reduceLeDiff, Nat.le_refl, Nat.zero_le, callT_some]
theorem con39 : Con prog 39 (dataF F39) := by
  refine con_data (T := tab []) (nt := 11) (rvs := [.cell 2 39]) func39 (by kernel_rfl) rfl rfl rfl tabOk_nil fun ds rs h hp => ?_
  obtain ⟨t, n, rfl, rfl⟩ := inv39 h
  exact w39 t n

def F42 : List SV → Option (List SV)
  | [.agg [.d (.str t), .d (.i .i64 n)], .agg [.d (.str t'), .d (.i .i64 n')]] => some [B (decide (t = t' ∧ n = n'))]
  | _ => none
theorem inv42 {ds rs : List SV} (h : F42 ds = some rs) : ∃ t n t' n', ds = [A t n, A t' n'] ∧ rs = [B (decide (t = t' ∧ n = n'))] := by
  unfold F42 at h
  split at h
  · cases h; exact ⟨_, _, _, _, rfl, rfl⟩
  · cases h
theorem w42 (t : List UInt8) (n : Int) (t' : List UInt8) (n' : Int) : WP prog (tab []) 0 (f42.body.getD .skip) (datQ prog [.tmp 4] [B (decide (t = t' ∧ n = n'))]) (st0 [A t n, A t' n'] [] 15) := by
  refine ⟨?_⟩
  simp only [f42, Option.getD_some]
  simp only [t61, t9, t3, t2, t39, vx, vy, vz, vw, vv, need_putO_if, need_putO_if', need_if, need_putU_if, need_if', if_false, if_true, Bool.false_eq_true, and_true, true_and, and_self, eq_self, Nat.reduceEqDiff, reduceIte, Nat.reduceLT, opCall_dataF, Bool.and_true, Bool.and_self, Nat.reduceMul, Nat.reduceAdd, Nat.reduceSub, Nat.reduceLeDiff, Nat.le_refl, Nat.zero_le, callT_some]
  refine cond_split _ (fun hc => ?_) (fun hc => ?_)
  · simp only [t61, t9, t3, t2, t39, vx, vy, vz, vw, vv, need_putO_if, need_putO_if', need_if, need_putU_if, need_if', if_false, if_true, Bool.false_eq_true, and_true, true_and, and_self, eq_self, Nat.reduceEqDiff, reduceIte, Nat.reduceLT, opCall_dataF, Bool.and_true, Bool.and_self, Nat.reduceMul, Nat.reduceAdd, Nat.reduceSub, Nat.reduceLeDiff, Nat.le_refl, Nat.zero_le, callT_some]
    refine dat_r rfl ?_
    simp [resS, ev_tmp] at hc ⊢
    simp [hc]
  · simp only [t61, t9, t3, t2, t39, vx, vy, vz, vw, vv, need_putO_if, need_putO_if', need_if, need_putU_if, need_if', if_false, if_true, Bool.false_eq_true, and_true, true_and, and_self, eq_self, Nat.reduceEqDiff, reduceIte, Nat.reduceLT, opCall_dataF, Bool.and_true, Bool.and_self, Nat.reduceMul, Nat.reduceAdd, Nat.reduceSub, Nat.reduceLeDiff, Nat.le_refl, Nat.zero_le, callT_some]
    refine cond_split _ (fun hc' => ?_) (fun hc' => ?_)
    · simp only [t61, t9, t3, t2, t39, vx, vy, vz, vw, vv, need_putO_if, need_putO_if', need_if, need_putU_if, need_if', if_false, if_true, Bool.false_eq_true, and_true, true_and, and_self, eq_self, Nat.reduceEqDiff, reduceIte, Nat.reduceLT, opCall_dataF, Bool.and_true, Bool.and_self, Nat.reduceMul, Nat.reduceAdd, Nat.reduceSub, Nat.reduceLeDiff, Nat.le_refl, Nat.zero_le, callT_some]
      refine dat_r rfl ?_
      simp [resS, ev_tmp] at hc hc' ⊢
      simp [hc']
    · simp only [t61, t9, t3, t2, t39, vx, vy, vz, vw, vv, need_putO_if, need_putO_if', need_if, need_putU_if, need_if', if_false, if_true, Bool.false_eq_true, and_true, true_and, and_self, eq_self, Nat.reduceEqDiff, reduceIte, Nat.reduceLT, opCall_dataF, Bool.and_true, Bool.and_self, Nat.reduceMul, Nat.reduceAdd, Nat.reduceSub, Nat.reduceLeDiff, Nat.le_refl, Nat.zero_le, callT_some]
      refine dat_r rfl ?_
      simp [resS, ev_tmp] at hc hc' ⊢
      simp [hc, hc']
theorem con42 : Con prog 42 (dataF F42) := by
  refine con_data (T := tab []) (nt := 15) (rvs := [.tmp 4]) func42 (by kernel_rfl) rfl rfl rfl tabOk_nil fun ds rs h hp => ?_
  obtain ⟨t, n, t', n', rfl, rfl⟩ := inv42 h
  exact w42 t n t' n'
end Go.V.Try
