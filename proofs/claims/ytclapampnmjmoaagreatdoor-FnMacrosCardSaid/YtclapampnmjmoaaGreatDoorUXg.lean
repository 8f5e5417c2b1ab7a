/- A part of the proof. No condition. -/
import Derived.Test.YtclapampnmjmoaaGreatDoorUXf
import Derived.KernelRfl
set_option linter.unusedVariables false
set_option linter.unusedSimpArgs false
set_option linter.unusedSectionVars false
namespace Go.U
open Go
abbrev w64 (n : Int) : Int := IntKind.wrap .i64 n
abbrev w8 (n : Int) : Int := IntKind.wrap .u8 n
abbrev w32 (n : Int) : Int := IntKind.wrap .i32 n
abbrev w64u (n : Int) : Int := IntKind.wrap .u64 n
def ru : Nat → List Sh → List Sh
  | 0, l => l
  | n + 1, l => .l .u :: ru n l
def lookT : List (Nat × TI) → TypeId → Option TI
  | [], _ => none
  | (t, i) :: l, u => if u = t then some i else lookT l u
theorem lookT_ok {P : Program} : ∀ {l : List (Nat × TI)}, (∀ p ∈ l, tyOf P p.1 = some p.2) → ∀ t i, lookT l t = some i → tyOf P t = some i
  | [], _, _, _, h => by cases h
  | (t, i) :: l, hl, u, j, h => by
    simp only [lookT] at h
    split at h
    · rename_i e; subst e; cases h; exact hl (_, _) (List.mem_cons_self ..)
    · exact lookT_ok (fun p hp => hl p (List.mem_cons_of_mem _ hp)) u j h
def mkTT {P : Program} (l : List (Nat × TI)) (h : ∀ p ∈ l, tyOf P p.1 = some p.2) (e : List Nat) (he : e.all (eqOkB P) = true) : TT P :=
  ⟨lookT l, lookT_ok h, fun t => e.any (Nat.beq t), fun t ht => by
    rw [List.any_eq_true] at ht
    obtain ⟨x, hx, hb⟩ := ht
    have := Nat.eq_of_beq_eq_true hb
    subst this
    exact List.all_eq_true.1 he t hx⟩
theorem tys_nil {P : Program} : ∀ p ∈ ([] : List (Nat × TI)), tyOf P p.1 = some p.2 := fun _ h => by cases h
theorem tys_cons {P : Program} {t : Nat} {i : TI} {l : List (Nat × TI)} (h : tyOf P t = some i) (hl : ∀ p ∈ l, tyOf P p.1 = some p.2) : ∀ p ∈ (t, i) :: l, tyOf P p.1 = some p.2 := fun p hp => by
  rw [List.mem_cons] at hp
  rcases hp with rfl | hp
  · exact h
  · exact hl p hp
theorem con_mk {P : Program} [Gl P] {Y : TT P} {L : CTab} {K : Nat} {c : Ct} {f : FuncId} {fn : Func} {an : An} (hf : P.funcs[f]? = some fn) (hm : P.follows .mixedOrders = true) (hL : CTabOk P L)
    (hok : (!(fn.name == "runtime.NumGoroutine") && fn.body.isSome && decide (c.hs.length ≤ 1000)) = true) (h : ∀ x, walk std Y L K c fn.results.toList fn.ntmps (fn.body.getD .skip) an x = c.F x) : CtOk P f c := by
  simp only [Bool.and_eq_true, Bool.not_eq_true', decide_eq_true_eq] at hok
  refine con_of_X (Y := Y) (L := L) (K := K) (code := fn.body.getD .skip) (an := an) hf hok.1.1 ?_ hm hL rfl rfl hok.2 fun x y hxy => (h x).trans hxy
  cases hb : fn.body with
  | none => rw [hb] at hok; cases hok.1.2
  | some c => rfl
end Go.U
