/- A part of the proof: what functions of the program do, walked. No condition. -/
import Derived.Test.YthiglohhocelfaaVT8
set_option linter.unusedVariables false
set_option linter.unusedSimpArgs false
namespace Go.V.Try
open Go Go.V Go.Proofs.Try
set_option maxRecDepth 20000
set_option linter.unusedSimpArgs false

def F13 : List SV → Option (List SV)
  | [.d (.rov 2 els), .d (.i .i64 l)] => match unP els with
    | some ps => if ps.length < lim then some [I (szP l ps)] else none
    | none => none
  | _ => none
theorem inv13 {ds rs : List SV} (h : F13 ds = some rs) : ∃ ps l, ds = [R ps, I l] ∧ ps.length < lim ∧ rs = [I (szP l ps)] := by
  unfold F13 at h
  split at h
  · split at h
    · rename_i ps hu
      split at h
      · rename_i hl
        cases h; exact ⟨ps, _, by rw [unP_inv hu], hl, rfl⟩
      · cases h
    · cases h
  · cases h
theorem con13 : Con prog 13 (dataF F13) := by
  refine con_data (T := tab [(37, dataF F37, [])]) (nt := 27) (rvs := [.tmp 4]) func13 (by kernel_rfl) rfl rfl rfl (tabOk_cons con37 tabOk_nil) fun ds rs h hp => ?_
  obtain ⟨ps, l, rfl, hl, rfl⟩ := inv13 h
  exact w13 ps l hl

theorem F13_R (ps : List (List UInt8 × Int)) (l : Int) (h : ps.length < lim) : F13 [R ps, I l] = some [I (szP l ps)] := by simp only [F13, unP_map, h, if_true]
theorem F14_R (ps : List (List UInt8 × Int)) (h : ps.length < lim) : F14 [R ps] = some [B (chars ps)] := by simp only [F14, unP_map, h, if_true]
theorem F15_R (ps : List (List UInt8 × Int)) (h : ps.length < lim) : F15 [R ps] = some [R ps] := by simp only [F15, unP_map, h, if_true]
theorem F17_R (ps qs : List (List UInt8 × Int)) (h : ps.length < lim) (h' : qs.length < lim) : F17 [R ps, R qs] = some [B (decide (ps = qs))] := by simp only [F17, unP_map, h, h', and_self, if_true]

def F3 : List SV → Option (List SV)
  | [.d (.rov 2 els)] => match unP els with
    | some ps => if ps.length < lim then some [B true] else none
    | none => none
  | _ => none
theorem inv3 {ds rs : List SV} (h : F3 ds = some rs) : ∃ ps, ds = [R ps] ∧ ps.length < lim ∧ rs = [B true] := by
  unfold F3 at h
  split at h
  · split at h
    · rename_i ps hu
      split at h
      · rename_i hl
        cases h; exact ⟨ps, by rw [unP_inv hu], hl, rfl⟩
      · cases h
    · cases h
  · cases h

theorem be_neq {P : Program} (x : Bool) (y : Operand) (ty : Nat) (h : tdAt P ty = some .bool) : binS P .neq ty y (.d (.b x)) (.d (.b x)) = some (.d (.b false)) := by
  simp [binS, binD, eqPart, isConstB, isBoolS, eqS, h]

abbrev tab3 : Tab := tab [(13, dataF F13, []), (15, dataF F15, []), (14, dataF F14, []), (16, dataF F14, []), (17, dataF F17, [])]
theorem w3 (ps : List (List UInt8 × Int)) (hps : ps.length < lim) : WP prog tab3 0 (f3.body.getD .skip) (datQ prog [.tmp 2] [B true]) (st0 [R ps] [] 27) := by
  refine ⟨?_⟩
  simp only [f3, Option.getD_some]
  have hlen : ((ps.map pD).length : Int) = (ps.length : Int) := by simp
  have g13 := F13_R ps 1048576 hps
  have g14 := F14_R ps hps
  have g15 := F15_R ps hps
  have g17 := F17_R ps ps hps hps
  simp only [g13, g14, g15, g17, t61, t9, t3, t2, t4, t22, t39, t25, vx, vy, vz, vw, vv, need_putO_if, need_putO_if', need_if, need_putU_if, need_if', if_false, if_true, Bool.false_eq_true, and_true, true_and, and_self, eq_self, Nat.reduceEqDiff, reduceIte, Nat.reduceLT, opCall_dataF, Bool.and_true, Bool.and_self, Nat.reduceMul, Nat.reduceAdd, Nat.reduceSub, Nat.reduceLeDiff, Nat.le_refl, Nat.zero_le, callT_some]
  refine cond_split _ (fun hc => ?_) (fun hc => ?_)
  · simp only [t61, t9, t3, t2, t4, t22, t39, t25, vx, vy, vz, vw, vv, need_putO_if, need_putO_if', need_if, need_putU_if, need_if', if_false, if_true, Bool.false_eq_true, and_true, true_and, and_self, eq_self, Nat.reduceEqDiff, reduceIte, Nat.reduceLT, opCall_dataF, Bool.and_true, Bool.and_self, Nat.reduceMul, Nat.reduceAdd, Nat.reduceSub, Nat.reduceLeDiff, Nat.le_refl, Nat.zero_le, callT_some]
    refine dat_r rfl ?_
    simp only [resS, vx, vy, vz, vw, vv, need_putO_if, need_putO_if', need_if, need_putU_if, need_if', if_false, if_true, Bool.false_eq_true, and_true, true_and, and_self, eq_self, Nat.reduceEqDiff, reduceIte, Nat.reduceLT, opCall_dataF, Bool.and_true, Bool.and_self, Nat.reduceMul, Nat.reduceAdd, Nat.reduceSub, Nat.reduceLeDiff, Nat.le_refl, Nat.zero_le, callT_some]
  · simp only [g13, g14, g15, g17, be_neq _ _ 4 t4.2.1, decide_true, t61, t9, t3, t2, t4, t22, t39, t25, vx, vy, vz, vw, vv, need_putO_if, need_putO_if', need_if, need_putU_if, need_if', if_false, if_true, Bool.false_eq_true, and_true, true_and, and_self, eq_self, Nat.reduceEqDiff, reduceIte, Nat.reduceLT, opCall_dataF, Bool.and_true, Bool.and_self, Nat.reduceMul, Nat.reduceAdd, Nat.reduceSub, Nat.reduceLeDiff, Nat.le_refl, Nat.zero_le, callT_some]
    refine dat_r rfl ?_
    simp only [resS, vx, vy, vz, vw, vv, need_putO_if, need_putO_if', need_if, need_putU_if, need_if', if_false, if_true, Bool.false_eq_true, and_true, true_and, and_self, eq_self, Nat.reduceEqDiff, reduceIte, Nat.reduceLT, opCall_dataF, Bool.and_true, Bool.and_self, Nat.reduceMul, Nat.reduceAdd, Nat.reduceSub, Nat.reduceLeDiff, Nat.le_refl, Nat.zero_le, callT_some]
theorem con3 : Con prog 3 (dataF F3) := by
  refine con_data (T := tab3) (nt := 27) (rvs := [.tmp 2]) func3 (by kernel_rfl) rfl rfl rfl (tabOk_cons con13 (tabOk_cons con15 (tabOk_cons con14 (tabOk_cons con16 (tabOk_cons con17 tabOk_nil))))) fun ds rs h hp => ?_
  obtain ⟨ps, rfl, hl, rfl⟩ := inv3 h
  exact w3 ps hl
end Go.V.Try
