/- A part of the proof: what functions of the program do, walked. No condition. -/
import Derived.Test.YthiglohhocelfaaVTyTry
set_option linter.unusedVariables false
set_option linter.unusedSimpArgs false
namespace Go.V.Try
open Go Go.V Go.Proofs.Try
set_option maxRecDepth 20000
set_option linter.unusedSimpArgs false

abbrev I (n : Int) : SV := .d (.i .i64 n)
abbrev B (b : Bool) : SV := .d (.b b)
abbrev U : SV := .undef
def wr (n : Int) : Int := IntKind.wrap .i64 n
def F37 : List SV → Option (List SV)
  | [.agg [.d (.str t), .d (.i .i64 _)], .d (.i .i64 l)] => some [I (if wr (l - t.length) < 0 then -1 else wr (l - t.length))]
  | _ => none

theorem w37 (t : List UInt8) (n l : Int) : WP prog (tab []) 0 (f37.body.getD .skip) (datQ prog [.tmp 4] [I (if wr (l - t.length) < 0 then -1 else wr (l - t.length))]) (st0 [.agg [.d (.str t), .d (.i .i64 n)], .d (.i .i64 l)] [] 13) := by
  refine ⟨?_⟩
  simp only [f37, Option.getD_some]
  simp only [t61, t9, t3, vx, vy, vz, vw, vv, need_putO_if, need_putO_if', need_if, need_putU_if, need_if', if_false, if_true, Bool.false_eq_true, and_true, true_and, and_self, eq_self, Nat.reduceEqDiff, reduceIte, Nat.reduceLT, opCall_dataF, Bool.and_true, Bool.and_self, Nat.reduceMul, Nat.reduceAdd, Nat.reduceSub, Nat.reduceLeDiff, Nat.le_refl, Nat.zero_le, callT_some]
  refine cond_split _ (fun hc => ?_) (fun hc => ?_)
  · simp only [t61, t9, t3, vx, vy, vz, vw, vv, need_putO_if, need_putO_if', need_if, need_putU_if, need_if', if_false, if_true, Bool.false_eq_true, and_true, true_and, and_self, eq_self, Nat.reduceEqDiff, reduceIte, Nat.reduceLT, opCall_dataF, Bool.and_true, Bool.and_self, Nat.reduceMul, Nat.reduceAdd, Nat.reduceSub, Nat.reduceLeDiff, Nat.le_refl, Nat.zero_le, callT_some]
    refine dat_r rfl ?_
    simp [resS, ev_tmp, wr] at hc ⊢
    omega
  · simp only [t61, t9, t3, vx, vy, vz, vw, vv, need_putO_if, need_putO_if', need_if, need_putU_if, need_if', if_false, if_true, Bool.false_eq_true, and_true, true_and, and_self, eq_self, Nat.reduceEqDiff, reduceIte, Nat.reduceLT, opCall_dataF, Bool.and_true, Bool.and_self, Nat.reduceMul, Nat.reduceAdd, Nat.reduceSub, Nat.reduceLeDiff, Nat.le_refl, Nat.zero_le, callT_some]
    refine dat_r rfl ?_
    simp [resS, ev_tmp, wr] at hc ⊢
    omega
theorem inv37 {ds rs : List SV} (h : F37 ds = some rs) : ∃ t n l, ds = [.agg [.d (.str t), .d (.i .i64 n)], .d (.i .i64 l)] ∧ rs = [I (if wr (l - t.length) < 0 then -1 else wr (l - t.length))] := by
  unfold F37 at h
  split at h
  · cases h; exact ⟨_, _, _, rfl, rfl⟩
  · cases h
theorem con37 : Con prog 37 (dataF F37) := by
  refine con_data (T := tab []) (nt := 13) (rvs := [.tmp 4]) func37 (by kernel_rfl) rfl rfl rfl tabOk_nil fun ds rs h hp => ?_
  obtain ⟨t, n, l, rfl, rfl⟩ := inv37 h
  exact w37 t n l

/-- A pair, as the laws have it. -/
def pD (p : List UInt8 × Int) : List D := [.str p.1, .i .i64 p.2]
def szPairs (l : Int) : List (List UInt8 × Int) → Int
  | [] => l
  | p :: ps => if (if wr (l - p.1.length) < 0 then -1 else wr (l - p.1.length)) < 0 then -1 else szPairs (if wr (l - p.1.length) < 0 then -1 else wr (l - p.1.length)) ps
def szP (l : Int) (ps : List (List UInt8 × Int)) : Int := if wr (l - ps.length) < 0 then -1 else szPairs (wr (l - ps.length)) ps

theorem w13 (ps : List (List UInt8 × Int)) (l : Int) (hps : ps.length < 6000000000000) : WP prog (tab [(37, dataF F37, [])]) 0 (f13.body.getD .skip) (datQ prog [.tmp 4] [I (szP l ps)]) (st0 [.d (.rov 2 (ps.map pD)), I l] [] 27) := by
  refine ⟨?_⟩
  simp only [f13, Option.getD_some]
  simp only [t61, t9, t3, t22, vx, vy, vz, vw, vv, need_putO_if, need_putO_if', need_if, need_putU_if, need_if', if_false, if_true, Bool.false_eq_true, and_true, true_and, and_self, eq_self, Nat.reduceEqDiff, reduceIte, Nat.reduceLT, opCall_dataF, Bool.and_true, Bool.and_self, Nat.reduceMul, Nat.reduceAdd, Nat.reduceSub, Nat.reduceLeDiff, Nat.le_refl, Nat.zero_le, callT_some]
  refine cond_split _ (fun hc => ?_) (fun hc => ?_)
  · simp only [t61, t9, t3, t22, vx, vy, vz, vw, vv, need_putO_if, need_putO_if', need_if, need_putU_if, need_if', if_false, if_true, Bool.false_eq_true, and_true, true_and, and_self, eq_self, Nat.reduceEqDiff, reduceIte, Nat.reduceLT, opCall_dataF, Bool.and_true, Bool.and_self, Nat.reduceMul, Nat.reduceAdd, Nat.reduceSub, Nat.reduceLeDiff, Nat.le_refl, Nat.zero_le, callT_some]
    refine dat_r rfl ?_
    simp [resS, ev_tmp, szP, wr] at hc ⊢
    omega
  · simp only [t61, t9, t3, t22, vx, vy, vz, vw, vv, need_putO_if, need_putO_if', need_if, need_putU_if, need_if', if_false, if_true, Bool.false_eq_true, and_true, true_and, and_self, eq_self, Nat.reduceEqDiff, reduceIte, Nat.reduceLT, opCall_dataF, Bool.and_true, Bool.and_self, Nat.reduceMul, Nat.reduceAdd, Nat.reduceSub, Nat.reduceLeDiff, Nat.le_refl, Nat.zero_le, callT_some]
    refine loop_rule (fun m st => ∃ i l', i + m = ps.length ∧ szP l ps = szPairs l' (ps.drop i) ∧ 0 ≤ l' ∧ st = ⟨[.d (.rov 2 (ps.map pD)), I l', U, U, I 0, I i, U, U, U, U, U, U, U, U, U, U, U, U, U, U, U, U, U, U, U, U, U], hpL []⟩)
      ps.length ⟨[.d (.rov 2 (ps.map pD)), I (wr (l - ps.length)), U, U, I 0, I 0, U, U, U, U, U, U, U, U, U, U, U, U, U, U, U, U, U, U, U, U, U], hpL []⟩ (Weak.slots (by simp [leL, wr])) ⟨0, _, by omega, by simp [szP, wr] at hc ⊢; omega, by simp [wr] at hc ⊢; omega, rfl⟩ ?_
    rintro m st k ⟨i, l', him, hsz, hl', rfl⟩ hk
    simp only [t61, t9, t3, t22, vx, vy, vz, vw, vv, need_putO_if, need_putO_if', need_if, need_putU_if, need_if', if_false, if_true, Bool.false_eq_true, and_true, true_and, and_self, eq_self, Nat.reduceEqDiff, reduceIte, Nat.reduceLT, opCall_dataF, Bool.and_true, Bool.and_self, Nat.reduceMul, Nat.reduceAdd, Nat.reduceSub, Nat.reduceLeDiff, Nat.le_refl, Nat.zero_le, callT_some]
    refine cond_split _ (fun hc => ?_) (fun hc => ?_)
    · simp only [List.length_map, decide_eq_true_eq] at hc
      have hi : i < ps.length := by omega
      have h1 : (ps.map pD)[i]? = some (pD ps[i]) := by simp [hi]
      have h2 : (0 : Int) ≤ (i : Int) := by omega
      simp only [h1, h2, pD, F37, t61, t9, t3, t22, vx, vy, vz, vw, vv, need_putO_if, need_putO_if', need_if, need_putU_if, need_if', if_false, if_true, Bool.false_eq_true, and_true, true_and, and_self, eq_self, Nat.reduceEqDiff, reduceIte, Nat.reduceLT, opCall_dataF, Bool.and_true, Bool.and_self, Nat.reduceMul, Nat.reduceAdd, Nat.reduceSub, Nat.reduceLeDiff, Nat.le_refl, Nat.zero_le, callT_some]
      have hd : ps.drop i = ps[i] :: ps.drop (i + 1) := (List.drop_eq_getElem_cons hi)
      have hw : IntKind.wrap .i64 ((i : Int) + 1) = ((i + 1 : Nat) : Int) := by simp [IntKind.wrap, IntKind.bits, IntKind.signed]; omega
      refine cond_split _ (fun hc => ?_) (fun hc => ?_)
      · simp only [t61, t9, t3, t22, vx, vy, vz, vw, vv, need_putO_if, need_putO_if', need_if, need_putU_if, need_if', if_false, if_true, Bool.false_eq_true, and_true, true_and, and_self, eq_self, Nat.reduceEqDiff, reduceIte, Nat.reduceLT, opCall_dataF, Bool.and_true, Bool.and_self, Nat.reduceMul, Nat.reduceAdd, Nat.reduceSub, Nat.reduceLeDiff, Nat.le_refl, Nat.zero_le, callT_some]
        refine dat_r rfl ?_
        have : szP l ps = -1 := by rw [hsz, hd, szPairs, if_pos (by simpa using hc)]
        simp only [resS, ev_tmp, this, vx, vy, vz, vw, vv, need_putO_if, need_putO_if', need_if, need_putU_if, need_if', if_false, if_true, Bool.false_eq_true, and_true, true_and, and_self, eq_self, Nat.reduceEqDiff, reduceIte, Nat.reduceLT, opCall_dataF, Bool.and_true, Bool.and_self, Nat.reduceMul, Nat.reduceAdd, Nat.reduceSub, Nat.reduceLeDiff, Nat.le_refl, Nat.zero_le, callT_some]
      · simp only [hw, t61, t9, t3, t22, vx, vy, vz, vw, vv, need_putO_if, need_putO_if', need_if, need_putU_if, need_if', if_false, if_true, Bool.false_eq_true, and_true, true_and, and_self, eq_self, Nat.reduceEqDiff, reduceIte, Nat.reduceLT, opCall_dataF, Bool.and_true, Bool.and_self, Nat.reduceMul, Nat.reduceAdd, Nat.reduceSub, Nat.reduceLeDiff, Nat.le_refl, Nat.zero_le, callT_some]
        cases m with
        | zero => omega
        | succ m =>
          refine hk _ _ m rfl (Weak.slots (fr' := [.d (.rov 2 (ps.map pD)), I (if wr (l' - ps[i].1.length) < 0 then -1 else wr (l' - ps[i].1.length)), U, U, I 0, I ((i + 1 : Nat) : Int), U, U, U, U, U, U, U, U, U, U, U, U, U, U, U, U, U, U, U, U, U]) (by simp only [leL]; simp)) ⟨i + 1, _, by omega, ?_, ?_, rfl⟩
          · rw [hsz, hd, szPairs, if_neg (by simpa using hc)]
          · simp only [decide_eq_false_iff_not] at hc
            omega
    · simp only [t61, t9, t3, t22, vx, vy, vz, vw, vv, need_putO_if, need_putO_if', need_if, need_putU_if, need_if', if_false, if_true, Bool.false_eq_true, and_true, true_and, and_self, eq_self, Nat.reduceEqDiff, reduceIte, Nat.reduceLT, opCall_dataF, Bool.and_true, Bool.and_self, Nat.reduceMul, Nat.reduceAdd, Nat.reduceSub, Nat.reduceLeDiff, Nat.le_refl, Nat.zero_le, callT_some]
      refine dat_r rfl ?_
      have : ps.drop i = [] := by simp at hc; simp; omega
      simp [resS, ev_tmp, hsz, this, szPairs]
end Go.V.Try
