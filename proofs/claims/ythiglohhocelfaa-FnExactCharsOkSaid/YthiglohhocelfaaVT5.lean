/- A part of the proof: what functions of the program do, walked. No condition. -/
import Derived.Test.YthiglohhocelfaaVT4
set_option linter.unusedVariables false
set_option linter.unusedSimpArgs false
namespace Go.V.Try
open Go Go.V Go.Proofs.Try
set_option maxRecDepth 20000
set_option linter.unusedSimpArgs false

def p14_4 : Plan := (.take 0 (.take 1 (.take 2 (.take 3 (.alt 4 (.take 5 (.take 6 (.take 7 (.take 8 (.take 9 (.take 10 (.take 11 (.alt 12 (.take 13 (.take 14 (.take 15 (.take 16 (.take 17 (.take 18 (.take 19 (.take 20 (.alt 21 (.alt 22 (.tail [23, 24, 25, 26, 27, 28, 29, 30, 31, 32, 33, 34, 35, 36, 37, 38, 39, 40, 41, 42]) .stop) .stop))))))))) .stop)))))))) .stop)))))
def p16_4 : Plan := (.take 0 (.alt 1 (.take 2 (.alt 3 (.take 4 (.take 5 (.take 6 (.alt 7 (.alt 8 (.tail [9, 10, 11, 12, 13, 14, 15, 16, 17, 18, 19, 20, 21, 22, 23, 24, 25]) .stop) .stop)))) .stop)) .stop))
def p17_6 : Plan := (.take 0 (.take 1 (.take 2 (.take 4 (.take 5 (.take 6 (.alt 3 (.alt 7 (.alt 8 (.tail [9]) .stop) .stop) (.alt 7 (.alt 3 (.alt 8 (.tail [9]) .stop) .stop) .stop))))))))

def F71 : List SV → Option (List SV)
  | [.d (.i .i64 a), .d (.i .i64 b), .d (.i .i64 c)] => some [B (decide (b ≤ a ∧ a ≤ c))]
  | _ => none
theorem inv71 {ds rs : List SV} (h : F71 ds = some rs) : ∃ a b c, ds = [I a, I b, I c] ∧ rs = [B (decide (b ≤ a ∧ a ≤ c))] := by
  unfold F71 at h
  split at h
  · cases h; exact ⟨_, _, _, rfl, rfl⟩
  · cases h
theorem w71 (a b c : Int) : WP prog (tab []) 0 (f71.body.getD .skip) (datQ prog [.tmp 6] [B (decide (b ≤ a ∧ a ≤ c))]) (st0 [I a, I b, I c] [] 15) := by
  refine ⟨?_⟩
  simp only [f71, Option.getD_some]
  simp only [vx, vy, vz, vw, vv, need_putO_if, need_putO_if', need_if, need_putU_if, need_if', if_false, if_true, Bool.false_eq_true, and_true, true_and, and_self, eq_self, Nat.reduceEqDiff, reduceIte, Nat.reduceLT, opCall_dataF, Bool.and_true, Bool.and_self, Nat.reduceMul, Nat.reduceAdd, Nat.reduceSub, Nat.reduceLeDiff, Nat.le_refl, Nat.zero_le, callT_some]
  refine stepG_split _ (fun hc => ?_) (fun hc => ?_)
  · simp only [hc, vx, vy, vz, vw, vv, need_putO_if, need_putO_if', need_if, need_putU_if, need_if', if_false, if_true, Bool.false_eq_true, and_true, true_and, and_self, eq_self, Nat.reduceEqDiff, reduceIte, Nat.reduceLT, opCall_dataF, Bool.and_true, Bool.and_self, Nat.reduceMul, Nat.reduceAdd, Nat.reduceSub, Nat.reduceLeDiff, Nat.le_refl, Nat.zero_le, callT_some]
    refine dat_r rfl ?_
    simp only [resS, vx, vy, vz, vw, vv, need_putO_if, need_putO_if', need_if, need_putU_if, need_if', if_false, if_true, Bool.false_eq_true, and_true, true_and, and_self, eq_self, Nat.reduceEqDiff, reduceIte, Nat.reduceLT, opCall_dataF, Bool.and_true, Bool.and_self, Nat.reduceMul, Nat.reduceAdd, Nat.reduceSub, Nat.reduceLeDiff, Nat.le_refl, Nat.zero_le, callT_some]
    simp at hc
    simp [hc]
  · simp only [hc, vx, vy, vz, vw, vv, need_putO_if, need_putO_if', need_if, need_putU_if, need_if', if_false, if_true, Bool.false_eq_true, and_true, true_and, and_self, eq_self, Nat.reduceEqDiff, reduceIte, Nat.reduceLT, opCall_dataF, Bool.and_true, Bool.and_self, Nat.reduceMul, Nat.reduceAdd, Nat.reduceSub, Nat.reduceLeDiff, Nat.le_refl, Nat.zero_le, callT_some]
    refine dat_r rfl ?_
    simp only [resS, vx, vy, vz, vw, vv, need_putO_if, need_putO_if', need_if, need_putU_if, need_if', if_false, if_true, Bool.false_eq_true, and_true, true_and, and_self, eq_self, Nat.reduceEqDiff, reduceIte, Nat.reduceLT, opCall_dataF, Bool.and_true, Bool.and_self, Nat.reduceMul, Nat.reduceAdd, Nat.reduceSub, Nat.reduceLeDiff, Nat.le_refl, Nat.zero_le, callT_some]
    simp at hc
    simp
    omega
theorem con71 : Con prog 71 (dataF F71) := by
  refine con_data (T := tab []) (nt := 15) (rvs := [.tmp 6]) func71 (by kernel_rfl) rfl rfl rfl tabOk_nil fun ds rs h hp => ?_
  obtain ⟨a, b, c, rfl, rfl⟩ := inv71 h
  exact w71 a b c
theorem w40 (a b c : Int) : WP prog (tab []) 0 (f40.body.getD .skip) (datQ prog [.tmp 6] [B (decide (b ≤ a ∧ a ≤ c))]) (st0 [I a, I b, I c] [] 15) := by
  refine ⟨?_⟩
  simp only [f40, Option.getD_some]
  simp only [vx, vy, vz, vw, vv, need_putO_if, need_putO_if', need_if, need_putU_if, need_if', if_false, if_true, Bool.false_eq_true, and_true, true_and, and_self, eq_self, Nat.reduceEqDiff, reduceIte, Nat.reduceLT, opCall_dataF, Bool.and_true, Bool.and_self, Nat.reduceMul, Nat.reduceAdd, Nat.reduceSub, Nat.reduceLeDiff, Nat.le_refl, Nat.zero_le, callT_some]
  refine stepG_split _ (fun hc => ?_) (fun hc => ?_)
  · simp only [hc, vx, vy, vz, vw, vv, need_putO_if, need_putO_if', need_if, need_putU_if, need_if', if_false, if_true, Bool.false_eq_true, and_true, true_and, and_self, eq_self, Nat.reduceEqDiff, reduceIte, Nat.reduceLT, opCall_dataF, Bool.and_true, Bool.and_self, Nat.reduceMul, Nat.reduceAdd, Nat.reduceSub, Nat.reduceLeDiff, Nat.le_refl, Nat.zero_le, callT_some]
    refine dat_r rfl ?_
    simp only [resS, vx, vy, vz, vw, vv, need_putO_if, need_putO_if', need_if, need_putU_if, need_if', if_false, if_true, Bool.false_eq_true, and_true, true_and, and_self, eq_self, Nat.reduceEqDiff, reduceIte, Nat.reduceLT, opCall_dataF, Bool.and_true, Bool.and_self, Nat.reduceMul, Nat.reduceAdd, Nat.reduceSub, Nat.reduceLeDiff, Nat.le_refl, Nat.zero_le, callT_some]
    simp at hc
    simp [hc]
  · simp only [hc, vx, vy, vz, vw, vv, need_putO_if, need_putO_if', need_if, need_putU_if, need_if', if_false, if_true, Bool.false_eq_true, and_true, true_and, and_self, eq_self, Nat.reduceEqDiff, reduceIte, Nat.reduceLT, opCall_dataF, Bool.and_true, Bool.and_self, Nat.reduceMul, Nat.reduceAdd, Nat.reduceSub, Nat.reduceLeDiff, Nat.le_refl, Nat.zero_le, callT_some]
    refine dat_r rfl ?_
    simp only [resS, vx, vy, vz, vw, vv, need_putO_if, need_putO_if', need_if, need_putU_if, need_if', if_false, if_true, Bool.false_eq_true, and_true, true_and, and_self, eq_self, Nat.reduceEqDiff, reduceIte, Nat.reduceLT, opCall_dataF, Bool.and_true, Bool.and_self, Nat.reduceMul, Nat.reduceAdd, Nat.reduceSub, Nat.reduceLeDiff, Nat.le_refl, Nat.zero_le, callT_some]
    simp at hc
    simp
    omega
theorem con40 : Con prog 40 (dataF F71) := by
  refine con_data (T := tab []) (nt := 15) (rvs := [.tmp 6]) func40 (by kernel_rfl) rfl rfl rfl tabOk_nil fun ds rs h hp => ?_
  obtain ⟨a, b, c, rfl, rfl⟩ := inv71 h
  exact w40 a b c

def F38 : List SV → Option (List SV)
  | [.d (.i .i64 a)] => some [B (decide (0 ≤ a ∧ a ≤ 255))]
  | _ => none
theorem inv38 {ds rs : List SV} (h : F38 ds = some rs) : ∃ a, ds = [I a] ∧ rs = [B (decide (0 ≤ a ∧ a ≤ 255))] := by
  unfold F38 at h
  split at h
  · cases h; exact ⟨_, rfl, rfl⟩
  · cases h
theorem w38 (a : Int) : WP prog (tab [(71, dataF F71, [])]) 0 (f38.body.getD .skip) (datQ prog [.tmp 2] [B (decide (0 ≤ a ∧ a ≤ 255))]) (st0 [I a] [] 5) := by
  refine ⟨?_⟩
  simp only [f38, Option.getD_some]
  simp only [F71, vx, vy, vz, vw, vv, need_putO_if, need_putO_if', need_if, need_putU_if, need_if', if_false, if_true, Bool.false_eq_true, and_true, true_and, and_self, eq_self, Nat.reduceEqDiff, reduceIte, Nat.reduceLT, opCall_dataF, Bool.and_true, Bool.and_self, Nat.reduceMul, Nat.reduceAdd, Nat.reduceSub, Nat.reduceLeDiff, Nat.le_refl, Nat.zero_le, callT_some]
  refine dat_r rfl ?_
  simp only [resS, vx, vy, vz, vw, vv, need_putO_if, need_putO_if', need_if, need_putU_if, need_if', if_false, if_true, Bool.false_eq_true, and_true, true_and, and_self, eq_self, Nat.reduceEqDiff, reduceIte, Nat.reduceLT, opCall_dataF, Bool.and_true, Bool.and_self, Nat.reduceMul, Nat.reduceAdd, Nat.reduceSub, Nat.reduceLeDiff, Nat.le_refl, Nat.zero_le, callT_some]
theorem con38 : Con prog 38 (dataF F38) := by
  refine con_data (T := tab [(71, dataF F71, [])]) (nt := 5) (rvs := [.tmp 2]) func38 (by kernel_rfl) rfl rfl rfl (tabOk_cons con71 tabOk_nil) fun ds rs h hp => ?_
  obtain ⟨a, rfl, rfl⟩ := inv38 h
  exact w38 a
theorem w41 (a : Int) : WP prog (tab [(40, dataF F71, [])]) 0 (f41.body.getD .skip) (datQ prog [.tmp 2] [B (decide (0 ≤ a ∧ a ≤ 255))]) (st0 [I a] [] 5) := by
  refine ⟨?_⟩
  simp only [f41, Option.getD_some]
  simp only [F71, vx, vy, vz, vw, vv, need_putO_if, need_putO_if', need_if, need_putU_if, need_if', if_false, if_true, Bool.false_eq_true, and_true, true_and, and_self, eq_self, Nat.reduceEqDiff, reduceIte, Nat.reduceLT, opCall_dataF, Bool.and_true, Bool.and_self, Nat.reduceMul, Nat.reduceAdd, Nat.reduceSub, Nat.reduceLeDiff, Nat.le_refl, Nat.zero_le, callT_some]
  refine dat_r rfl ?_
  simp only [resS, vx, vy, vz, vw, vv, need_putO_if, need_putO_if', need_if, need_putU_if, need_if', if_false, if_true, Bool.false_eq_true, and_true, true_and, and_self, eq_self, Nat.reduceEqDiff, reduceIte, Nat.reduceLT, opCall_dataF, Bool.and_true, Bool.and_self, Nat.reduceMul, Nat.reduceAdd, Nat.reduceSub, Nat.reduceLeDiff, Nat.le_refl, Nat.zero_le, callT_some]
theorem con41 : Con prog 41 (dataF F38) := by
  refine con_data (T := tab [(40, dataF F71, [])]) (nt := 5) (rvs := [.tmp 2]) func41 (by kernel_rfl) rfl rfl rfl (tabOk_cons con40 tabOk_nil) fun ds rs h hp => ?_
  obtain ⟨a, rfl, rfl⟩ := inv38 h
  exact w41 a
end Go.V.Try
