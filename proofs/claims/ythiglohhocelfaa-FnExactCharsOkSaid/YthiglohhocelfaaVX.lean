/- The rules by which a walk is done: reading memory, calls. No condition. -/
import Derived.Test.YthiglohhocelfaaVW
set_option linter.unusedVariables false
set_option linter.unusedSimpArgs false
namespace Go.V
open Go

def loadO (k : Option Blk) (e c : Nat) (td : TD) (n : Nat) : Option SV :=
  match k with
  | some k => partE (k.c.el? e) c td n
  | none => none
where partE : Option (List SV) → Nat → TD → Nat → Option SV
  | some cs, c, td, n => partS td n (cs.drop c)
  | none, _, _, _ => none

def faS : Option TD → Nat → SV → Option SV
  | some (.st fs), f, x => faF (fs[f]?) x
  | _, _, _ => none
where faF : Option (Nat × Nat × Nat) → SV → Option SV
  | some (off, _, n + 1), .ptr b e c => some (.ptr b e (c + off))
  | some (off, _, n + 1), .rptr cs => some (.rptr (cs.drop off))
  | _, _ => none
def fvS : Option TD → Nat → SV → (Nat → Option TI) → Option SV
  | some (.st fs), f, .agg cs, ty => fvF (fs[f]?) cs ty
  | _, _, _, _ => none
where fvF : Option (Nat × Nat × Nat) → List SV → (Nat → Option TI) → Option SV
  | some (off, t, _), cs, ty => match ty t with | some i => partS i.td i.size (cs.drop off) | none => none
  | none, _, _ => none

section
variable {P : Program} {T : Tab}

theorem ld_ptr {t : Nat} {td : TD} {n b : Nat} {z : List D} (h : tyOf P t = some ⟨td, n, b, z⟩) (hp : Nat → Option Blk) (x e c : Nat) : loadS P hp t (.ptr x e c) = loadO (hp x) e c td n := by
  unfold loadS; rw [h]; unfold loadO
  simp only
  cases hp x with
  | none => rfl
  | some k => simp only; cases k.c.el? e <;> rfl
theorem ld_rptr {t : Nat} {td : TD} {n b : Nat} {z : List D} (h : tyOf P t = some ⟨td, n, b, z⟩) (hp : Nat → Option Blk) (cs : List D) : loadS P hp t (.rptr cs) = partS td n (cs.map SV.d) := by
  unfold loadS; rw [h]
variable (fr : List SV) (hp : Nat → Option Blk)
theorem lo_some (s : Nat) (mv : Bool) (c : BC) (e j : Nat) (td : TD) (n : Nat) : loadO (some ⟨s, mv, c⟩) e j td n = loadO.partE (c.el? e) j td n := rfl
theorem lo_part (cs : List SV) (j : Nat) (td : TD) (n : Nat) : loadO.partE (some cs) j td n = partS td n (cs.drop j) := rfl
theorem part_str (n : Nat) (c : SV) (cs : List SV) : partS .str n (c :: cs) = some c := rfl
theorem part_int (q : IntKind) (n : Nat) (c : SV) (cs : List SV) : partS (.int q) n (c :: cs) = some c := rfl
theorem part_bool (n : Nat) (c : SV) (cs : List SV) : partS .bool n (c :: cs) = some c := rfl
theorem part_sl (t n : Nat) (c : SV) (cs : List SV) : partS (.sl t) n (c :: cs) = some c := rfl
theorem part_ptr (t n : Nat) (c : SV) (cs : List SV) : partS (.ptr t) n (c :: cs) = some c := rfl
theorem part_iface (n : Nat) (c : SV) (cs : List SV) : partS .iface n (c :: cs) = some c := rfl
theorem part_other (n : Nat) (c : SV) (cs : List SV) : partS .other n (c :: cs) = some c := rfl
theorem part_st (fs : List (Nat × Nat × Nat)) (n : Nat) (cs : List SV) : partS (.st fs) n cs = if n ≤ cs.length then some (.agg (cs.take n)) else none := rfl
theorem part_arr (m t n : Nat) (cs : List SV) : partS (.arr m t) n cs = if n ≤ cs.length then some (.agg (cs.take n)) else none := rfl
theorem fa_ptr (t f b e c : Nat) : fieldAddrS P t (.ptr b e c) f = faS (tdAt P t) f (.ptr b e c) := by
  unfold fieldAddrS faS
  cases tdAt P t with
  | none => rfl
  | some td => cases td with
    | st fs =>
      simp only
      cases fs[f]? with
      | none => rfl
      | some x => obtain ⟨o, y, n⟩ := x; cases n <;> rfl
    | _ => rfl
theorem fa_rptr (t f : Nat) (cs : List D) : fieldAddrS P t (.rptr cs) f = faS (tdAt P t) f (.rptr cs) := by
  unfold fieldAddrS faS
  cases tdAt P t with
  | none => rfl
  | some td => cases td with
    | st fs =>
      simp only
      cases fs[f]? with
      | none => rfl
      | some x => obtain ⟨o, y, n⟩ := x; cases n <;> rfl
    | _ => rfl
theorem faS_st (fs : List (Nat × Nat × Nat)) (f : Nat) (x : SV) : faS (some (.st fs)) f x = faS.faF (fs[f]?) x := rfl
theorem faF_ptr (off y n b e c : Nat) : faS.faF (some (off, y, n + 1)) (.ptr b e c) = some (.ptr b e (c + off)) := rfl
theorem faF_rptr (off y n : Nat) (cs : List D) : faS.faF (some (off, y, n + 1)) (.rptr cs) = some (.rptr (cs.drop off)) := rfl
theorem fv_agg (t f : Nat) (cs : List SV) : fieldS P t (.agg cs) f = fvS (tdAt P t) f (.agg cs) (tyOf P) := by
  unfold fieldS fvS
  cases tdAt P t with
  | none => rfl
  | some td => cases td with
    | st fs =>
      simp only
      unfold fvS.fvF
      cases fs[f]? with
      | none => rfl
      | some x => obtain ⟨o, y, n⟩ := x; simp only; cases tyOf P y <;> rfl
    | _ => rfl
theorem fvS_st (fs : List (Nat × Nat × Nat)) (f : Nat) (cs : List SV) (ty : Nat → Option TI) : fvS (some (.st fs)) f (.agg cs) ty = fvS.fvF (fs[f]?) cs ty := rfl
theorem fvF_some {t : Nat} {td : TD} {m b : Nat} {z : List D} (h : tyOf P t = some ⟨td, m, b, z⟩) (off n : Nat) (cs : List SV) : fvS.fvF (some (off, t, n)) cs (tyOf P) = partS td m (cs.drop off) := by
  unfold fvS.fvF; simp only [h]

theorem td_of {t : Nat} {td : TD} {n b : Nat} {z : List D} (h : tyOf P t = some ⟨td, n, b, z⟩) : tdAt P t = some td := by unfold tdAt; rw [h]; rfl
theorem sz_of {t : Nat} {td : TD} {n b : Nat} {z : List D} (h : tyOf P t = some ⟨td, n, b, z⟩) : szOf P t = some n := by unfold szOf; rw [h]; rfl

theorem len_str (l : List UInt8) : lenS (some .str) (.d (.str l)) = some l.length := rfl
theorem len_rov (e s : Nat) (els : List (List D)) : lenS (some (.sl e)) (.d (.rov s els)) = some els.length := rfl
theorem len_emp (e : Nat) : lenS (some (.sl e)) (.d .emp) = some 0 := rfl
theorem len_sl (e b off len : Nat) : lenS (some (.sl e)) (.sl b off len) = some len := rfl

/-- The address of an element. -/
theorem ia_rov {hp : Nat → Option Blk} {t e s : Nat} (h : tdAt P t = some (.sl e)) (hs : szOf P e = some s) (els : List (List D)) (q : IntKind) (n : Int) :
    indexAddrS P hp t (.d (.rov s els)) (.d (.i q n)) = if 0 ≤ n then (els[n.toNat]?).map SV.rptr else none := by
  unfold indexAddrS; rw [h]; simp only [hs, and_true]
theorem ia_sl {hp : Nat → Option Blk} {t e : Nat} (h : tdAt P t = some (.sl e)) (b off len : Nat) (q : IntKind) (n : Int) {k : Blk} (hk : hp b = some k) (hs : szOf P e = some k.s) :
    indexAddrS P hp t (.sl b off len) (.d (.i q n)) = if 0 ≤ n ∧ n.toNat < len then some (.ptr b (off + n.toNat) 0) else none := by
  unfold indexAddrS; rw [h]; simp only [hk, hs, and_true]

/-- What a store leaves. -/
def storeO (fr : List SV) (b : Nat) (k : Blk) : Option BC → (Nat → Option Blk) → Option St
  | some bc, hp => some ⟨fr, hset hp b { k with c := bc }⟩
  | none, _ => none
theorem st_ptr {t n : Nat} (h : szOf P t = some n) {b e c : Nat} {k : Blk} {cs xs : List SV} {v : SV} (hk : hp b = some k) (he : k.c.el? e = some cs) (hv : v.cells = some xs) (hx : xs.length = n) (hc : c + n ≤ cs.length) :
    storeSt P ⟨fr, hp⟩ t (.ptr b e c) v = storeO fr b k (k.c.setEl e (cs.take c ++ xs ++ cs.drop (c + n))) hp := by
  unfold storeSt
  rw [h, hv]
  simp only [hx, ne_eq, not_true_eq_false, if_false, hk, he, hc, if_true]
  cases k.c.setEl e (cs.take c ++ xs ++ cs.drop (c + n)) <;> rfl
theorem storeO_some (b s : Nat) (mv : Bool) (c bc : BC) : storeO fr b ⟨s, mv, c⟩ (some bc) hp = some ⟨fr, hset hp b ⟨s, mv, bc⟩⟩ := rfl

/-- A call of what is in the table. -/
def callT (st : St) (d : Option Nat) (f : Nat) (args : List SV) : Option (Fun × List Bool) → Option St
  | some (F, refs) => if d.getD 0 < 999999 then opCall F refs st d args else none
  | none => none
theorem call_func (d : Option Nat) (f : Nat) (l : List Operand) : callS T ⟨fr, hp⟩ d (.func f) l = callT ⟨fr, hp⟩ d f (l.map (ev ⟨fr, hp⟩)) (T f) := by
  unfold callS callT
  simp only [ev, List.append_nil]
  cases T f <;> rfl
theorem callT_some (st : St) (d : Nat) (f : Nat) (args : List SV) (F : Fun) (refs : List Bool) (h : d < 999999) : callT st (some d) f args (some (F, refs)) = opCall F refs st (some d) args := by
  simp [callT, h]
theorem callD_true (f : List SV → Option (List SV)) (refs : List Bool) (st : St) (d : Option Nat) (args : List SV) : callD f refs st d args true = retO st d (f args) := rfl
theorem retO_some (st : St) (d : Option Nat) (rs : List SV) : retO st d (some rs) = if SV.pureL rs then some (st.put d (retSV rs)) else none := rfl
theorem pureL_nil : SV.pureL [] = true := rfl
theorem pureL_cons (c : SV) (cs : List SV) : SV.pureL (c :: cs) = (c.pure && SV.pureL cs) := rfl
theorem pure_d (x : D) : SV.pure (.d x) = true := rfl
theorem pure_agg (cs : List SV) : SV.pure (.agg cs) = SV.pureL cs := rfl
theorem retSV_one (x : SV) : retSV [x] = x := rfl
theorem retSV_two (x y : SV) (l : List SV) : retSV (x :: y :: l) = .tup (x :: y :: l) := rfl

theorem all_one_nil : ([] : List SV).all SV.one = true := rfl
theorem all_one_d (x : D) (l : List SV) : (SV.d x :: l).all SV.one = l.all SV.one := rfl
theorem all_one_sl (x y z : Nat) (l : List SV) : (SV.sl x y z :: l).all SV.one = l.all SV.one := rfl
theorem all_one_ptr (x y z : Nat) (l : List SV) : (SV.ptr x y z :: l).all SV.one = l.all SV.one := rfl
theorem all_one_clo (x : Nat) (y : List SV) (l : List SV) : (SV.clo x y :: l).all SV.one = l.all SV.one := rfl
def cellsA (cs : List SV) : Bool → Option (List SV)
  | true => some cs
  | false => none
theorem cells_aggA (cs : List SV) : SV.cells (.agg cs) = cellsA cs (cs.all SV.one) := by
  unfold SV.cells
  simp only
  cases cs.all SV.one <;> rfl
theorem cellsA_true (cs : List SV) : cellsA cs true = some cs := rfl

end

/-! ### The address of an element, an element -/

def iaF : Option TD → (Nat → Option Nat) → Nat → Nat → Nat → Int → Option Blk → Option SV
  | some (.sl e), f, b, off, len, n, some k => if 0 ≤ n ∧ n.toNat < len ∧ f e = some k.s then some (.ptr b (off + n.toNat) 0) else none
  | _, _, _, _, _, _, _ => none
def irF : Option TD → (Nat → Option Nat) → Nat → List (List D) → Int → Option SV
  | some (.sl e), f, s, els, n => if 0 ≤ n ∧ f e = some s then irE (els[n.toNat]?) else none
  | _, _, _, _, _ => none
where irE : Option (List D) → Option SV
  | some cs => some (.rptr cs)
  | none => none
section
variable {P : Program} (hp : Nat → Option Blk)
theorem ia_slF (t b off len : Nat) (q : IntKind) (n : Int) : indexAddrS P hp t (.sl b off len) (.d (.i q n)) = iaF (tdAt P t) (szOf P) b off len n (hp b) := by
  unfold indexAddrS iaF
  cases tdAt P t with
  | none => rfl
  | some td => cases td with
    | sl e => simp only; cases hp b <;> rfl
    | _ => rfl
theorem iaF_some (e : Nat) (f : Nat → Option Nat) (b off len : Nat) (n : Int) (s : Nat) (mv : Bool) (c : BC) : iaF (some (.sl e)) f b off len n (some ⟨s, mv, c⟩) = if 0 ≤ n ∧ n.toNat < len ∧ f e = some s then some (.ptr b (off + n.toNat) 0) else none := rfl
theorem ia_rovF (t s : Nat) (els : List (List D)) (q : IntKind) (n : Int) : indexAddrS P hp t (.d (.rov s els)) (.d (.i q n)) = irF (tdAt P t) (szOf P) s els n := by
  unfold indexAddrS irF
  cases tdAt P t with
  | none => rfl
  | some td => cases td with
    | sl e => simp only; unfold irF.irE; cases els[n.toNat]? <;> rfl
    | _ => rfl
theorem irF_some (e : Nat) (f : Nat → Option Nat) (s : Nat) (els : List (List D)) (n : Int) : irF (some (.sl e)) f s els n = if 0 ≤ n ∧ f e = some s then irF.irE (els[n.toNat]?) else none := rfl
theorem irE_some (cs : List D) : irF.irE (some cs) = some (.rptr cs) := rfl
theorem toNat_cast (n : Nat) : ((n : Nat) : Int).toNat = n := rfl
theorem ev_nilsl (fr : List SV) (hp : Nat → Option Blk) : ev ⟨fr, hp⟩ (.const (.slice none 0 0)) = .d .emp := rfl
end

/-! ### Writes -/

def storeG (fr : List SV) (hp : Nat → Option Blk) (b e c n : Nat) (xs : List SV) (k : Blk) : Option (List SV) → Option St
  | some cs => if xs.length = n ∧ c + n ≤ cs.length then storeO fr b k (k.c.setEl e (cs.take c ++ xs ++ cs.drop (c + n))) hp else none
  | none => none
def storeF (fr : List SV) (hp : Nat → Option Blk) (b e c : Nat) : Option Nat → Option (List SV) → Option Blk → Option St
  | some n, some xs, some k => storeG fr hp b e c n xs k (k.c.el? e)
  | _, _, _ => none
def rowO (els : List (List D)) (e : Nat) : Option (List D) → Option BC
  | some l => some (.row (els.set e l))
  | none => none

section
variable {P : Program} (fr : List SV) (hp : Nat → Option Blk) (k : St → Prop)
theorem store_F (t b e c : Nat) (v : SV) : storeSt P ⟨fr, hp⟩ t (.ptr b e c) v = storeF fr hp b e c (szOf P t) v.cells (hp b) := by
  unfold storeSt storeF
  cases szOf P t with
  | none => rfl
  | some n => cases v.cells with
    | none => rfl
    | some xs =>
      simp only
      cases hp b with
      | none => by_cases h : xs.length = n <;> simp [h]
      | some kb =>
        simp only
        unfold storeG
        cases kb.c.el? e with
        | none => by_cases h : xs.length = n <;> simp [h]
        | some cs =>
          by_cases h : xs.length = n
          · by_cases h2 : c + n ≤ cs.length
            · simp only [h, h2, ne_eq, not_true_eq_false, if_false, if_true, and_self]
              cases kb.c.setEl e (cs.take c ++ xs ++ cs.drop (c + n)) <;> rfl
            · simp [h, h2]
          · simp [h]
theorem storeF_some (b e c n : Nat) (xs : List SV) (kb : Blk) : storeF fr hp b e c (some n) (some xs) (some kb) = storeG fr hp b e c n xs kb (kb.c.el? e) := rfl
theorem storeG_some (b e c n : Nat) (xs cs : List SV) (kb : Blk) : storeG fr hp b e c n xs kb (some cs) = if xs.length = n ∧ c + n ≤ cs.length then storeO fr b kb (kb.c.setEl e (cs.take c ++ xs ++ cs.drop (c + n))) hp else none := rfl
theorem need_putU_if (d : Option Nat) (c : Prop) [Decidable c] (x : Option St) : need (putU d (if c then x else none)) k = (c ∧ need (putU d x) k) := by
  by_cases h : c <;> simp [h, putU, need]
theorem row_el (els : List (List D)) (e : Nat) (cs : List SV) : (BC.row els).setEl e cs = rowO els e (allD cs) := by
  show (allD cs).map (fun l => BC.row (els.set e l)) = _
  cases allD cs <;> rfl
theorem rowO_some (els : List (List D)) (e : Nat) (l : List D) : rowO els e (some l) = some (.row (els.set e l)) := rfl
theorem allD_nil : allD [] = some [] := rfl
theorem allD_d (x : D) (cs : List SV) : allD (.d x :: cs) = (allD cs).map (x :: ·) := rfl
end

/-! ### Regions in any order; slices -/

section
variable {P : Program} {T : Tab} {n0 : Nat} (fr : List SV) (hp : Nat → Option Blk) (Q : Qs) (k : St → Prop) (d : Option Nat) (dd : Nat) (t : Nat) (pos : String) (af : Array Edge) (g : Option (Nat × Bool))

/-- A region in any order, closed. -/
structure DrawW (P : Program) (T : Tab) (l : List Oper) (k : St → Prop) (st : St) : Prop where
  out : P.follows .mixedOrders = true ∧ Region.noSelect ⟨l⟩ = true ∧ ∃ p, okP P ⟨l⟩ p (Array.size ⟨l⟩) (Array.replicate (Array.size ⟨l⟩) false) none = true ∧ planW P T ⟨l⟩ k p st
theorem w_draw (id : Nat) (l : List Oper) : W P T n0 (.region id ⟨l⟩ true) Q ⟨fr, hp⟩ = DrawW P T l Q.n ⟨fr, hp⟩ := propext ⟨fun h => ⟨h⟩, fun h => h.out⟩
theorem draw {l : List Oper} {k : St → Prop} {st : St} (p : Plan) (hm : P.follows .mixedOrders = true) (hs : Region.noSelect ⟨l⟩ = true) (ho : okP P ⟨l⟩ p (Array.size ⟨l⟩) (Array.replicate (Array.size ⟨l⟩) false) none = true)
    (h : planW P T ⟨l⟩ k p st) : DrawW P T l k st := ⟨hm, hs, p, ho, h⟩

def planO (P : Program) (T : Tab) (ops : Array Oper) (k : St → Prop) (st : St) : Option Oper → Prop
  | some o => stepG P T o k st (wantS st ops o)
  | none => False
theorem plan_done (ops : Array Oper) : planW P T ops k .done ⟨fr, hp⟩ = k ⟨fr, hp⟩ := rfl
theorem plan_take (l : List Oper) (i : Nat) (p : Plan) : planW P T ⟨l⟩ k (.take i p) ⟨fr, hp⟩ = planO P T ⟨l⟩ (planW P T ⟨l⟩ k p) ⟨fr, hp⟩ (l[i]?) := by
  simp only [planW, List.getElem?_toArray]
  cases l[i]? <;> rfl
theorem plan_alt (l : List Oper) (i : Nat) (p r : Plan) : planW P T ⟨l⟩ k (.alt i p r) ⟨fr, hp⟩ = (planO P T ⟨l⟩ (planW P T ⟨l⟩ k p) ⟨fr, hp⟩ (l[i]?) ∧ planW P T ⟨l⟩ k r ⟨fr, hp⟩) := by
  simp only [planW, List.getElem?_toArray]
  cases l[i]? <;> rfl
theorem plan_stop (ops : Array Oper) : planW P T ops k .stop ⟨fr, hp⟩ = True := rfl
theorem plan_tail (l : List Oper) (t : List Nat) : planW P T ⟨l⟩ k (.tail t) ⟨fr, hp⟩ = tailW P T ⟨l⟩ k t ⟨fr, hp⟩ := rfl
theorem tail_nil (ops : Array Oper) : tailW P T ops k [] ⟨fr, hp⟩ = k ⟨fr, hp⟩ := rfl
theorem tail_cons (l : List Oper) (i : Nat) (t : List Nat) : tailW P T ⟨l⟩ k (i :: t) ⟨fr, hp⟩ = planO P T ⟨l⟩ (tailW P T ⟨l⟩ k t) ⟨fr, hp⟩ (l[i]?) := by
  simp only [tailW, List.getElem?_toArray]
  cases l[i]? <;> rfl
theorem planO_some (ops : Array Oper) (o : Oper) : planO P T ops k ⟨fr, hp⟩ (some o) = stepG P T o k ⟨fr, hp⟩ (wantS ⟨fr, hp⟩ ops o) := rfl

/-- A new row. -/
def makeS (st : St) (d : Nat) : Option TI → SV → SV → Option St
  | some i, .d (.i _ n), .d (.i _ m) => if i.size = 0 ∨ i.bytes = 0 ∨ n ≠ m ∨ n < 0 ∨ 281474976710656 < i.bytes * n.toNat then none else
      some ((st.newB (newId d) ⟨i.size, false, .row (List.replicate n.toNat i.zero)⟩).put (some d) (.sl (newId d) 0 n.toNat))
  | _, _, _ => none
theorem nd_makeSlice (ty e : Nat) (x y : Operand) (h : tdAt P ty = some (.sl e)) : need (opStep P T ⟨fr, hp⟩ ⟨some dd, .makeSlice ty x y, t, pos, af, g⟩) k = need (makeS ⟨fr, hp⟩ dd (tyOf P e) (ev ⟨fr, hp⟩ x) (ev ⟨fr, hp⟩ y)) k := by
  show need (opNew P _ dd (.makeSlice ty x y)) k = _
  unfold opNew
  simp only [h]
  cases tyOf P e with
  | none => rfl
  | some i =>
    cases ev ⟨fr, hp⟩ x with
    | d a => cases a with
      | i q n => cases ev ⟨fr, hp⟩ y with
        | d b => cases b <;> rfl
        | _ => rfl
      | _ => rfl
    | _ => rfl
theorem makeS_some (td : TD) (s b : Nat) (z : List D) (q r : IntKind) (n : Nat) (h : (b + 1) * n ≤ 281474976710656) : makeS ⟨fr, hp⟩ dd (some ⟨td, s + 1, b + 1, z⟩) (.d (.i q n)) (.d (.i r n)) =
    some (St.put (St.newB ⟨fr, hp⟩ (newId dd) ⟨s + 1, false, .row (List.replicate n z)⟩) (some dd) (.sl (newId dd) 0 n)) := by
  unfold makeS
  simp only
  rw [if_neg]
  · simp
  · simp; omega
end

theorem vw : (type_of% @w_draw) ∧ (type_of% @ia_slF) ∧ (type_of% @iaF_some) ∧ (type_of% @ia_rovF) ∧ (type_of% @irF_some) ∧ (type_of% @irE_some) ∧ (type_of% @toNat_cast) ∧ (type_of% @ev_nilsl) ∧ (type_of% @store_F) ∧ (type_of% @storeF_some) ∧ (type_of% @storeG_some) ∧ (type_of% @row_el) ∧ (type_of% @rowO_some) ∧ (type_of% @allD_nil) ∧ (type_of% @allD_d) ∧ (type_of% @plan_done) ∧ (type_of% @plan_take) ∧ (type_of% @plan_alt) ∧ (type_of% @plan_stop) ∧ (type_of% @planO_some) ∧ (type_of% @plan_tail) ∧ (type_of% @tail_nil) ∧ (type_of% @tail_cons) ∧ (type_of% @lo_some) ∧ (type_of% @lo_part) ∧ (type_of% @part_str) ∧ (type_of% @part_int) ∧ (type_of% @part_bool) ∧ (type_of% @part_sl) ∧ (type_of% @part_ptr) ∧ (type_of% @part_iface) ∧ (type_of% @part_other) ∧ (type_of% @part_st) ∧ (type_of% @part_arr) ∧ (type_of% @fa_ptr) ∧ (type_of% @fa_rptr) ∧ (type_of% @faS_st) ∧ (type_of% @faF_ptr) ∧ (type_of% @faF_rptr) ∧ (type_of% @fv_agg) ∧ (type_of% @fvS_st) ∧ (type_of% @len_str) ∧ (type_of% @len_rov) ∧ (type_of% @len_emp) ∧ (type_of% @len_sl) ∧ (type_of% @storeO_some) ∧ (type_of% @call_func) ∧ (type_of% @callD_true) ∧ (type_of% @retO_some) ∧ (type_of% @pureL_nil) ∧ (type_of% @pureL_cons) ∧ (type_of% @pure_d) ∧ (type_of% @pure_agg) ∧ (type_of% @retSV_one) ∧ (type_of% @retSV_two) ∧ (type_of% @all_one_nil) ∧ (type_of% @all_one_d) ∧ (type_of% @all_one_sl) ∧ (type_of% @all_one_ptr) ∧ (type_of% @all_one_clo) ∧ (type_of% @cells_aggA) ∧ (type_of% @cellsA_true) := ⟨@w_draw, @ia_slF, @iaF_some, @ia_rovF, @irF_some, @irE_some, @toNat_cast, @ev_nilsl, @store_F, @storeF_some, @storeG_some, @row_el, @rowO_some, @allD_nil, @allD_d, @plan_done, @plan_take, @plan_alt, @plan_stop, @planO_some, @plan_tail, @tail_nil, @tail_cons, @lo_some, @lo_part, @part_str, @part_int, @part_bool, @part_sl, @part_ptr, @part_iface, @part_other, @part_st, @part_arr, @fa_ptr, @fa_rptr, @faS_st, @faF_ptr, @faF_rptr, @fv_agg, @fvS_st, @len_str, @len_rov, @len_emp, @len_sl, @storeO_some, @call_func, @callD_true, @retO_some, @pureL_nil, @pureL_cons, @pure_d, @pure_agg, @retSV_one, @retSV_two, @all_one_nil, @all_one_d, @all_one_sl, @all_one_ptr, @all_one_clo, @cells_aggA, @cellsA_true⟩

theorem iter_rule {P : Program} {T : Tab} {n0 : Nat} {b : Code} {Q : Qs} (inv : Nat → St → Prop)
    (hs : ∀ m st k, inv m st → (∀ st1 st2 m', m = m' + 1 → Weak n0 st1 st2 → inv m' st2 → k st1) → W P T n0 b (Q.seq k) st) :
    ∀ (m : Nat) (st st' : St), Weak n0 st st' → inv m st' → iterW n0 (fun k => W P T n0 b (Q.seq k)) (m + 1) st
  | 0, st, st', hw, h0 => ⟨st', hw, hs 0 st' _ h0 fun _ _ _ e => by cases e⟩
  | m + 1, st, st', hw, h0 => ⟨st', hw, hs (m + 1) st' _ h0 fun st1 st2 m' e hw' hi => by cases e; exact iter_rule inv hs m st1 st2 hw' hi⟩

/-- **A loop**, by what holds at its head with m rounds to go. -/
theorem loop_rule {P : Program} {T : Tab} {n0 : Nat} {b : Code} {Q : Qs} {st : St} (inv : Nat → St → Prop) (m : Nat) (st' : St) (hw : Weak n0 st st') (h0 : inv m st')
    (hs : ∀ m st k, inv m st → (∀ st1 st2 m', m = m' + 1 → Weak n0 st1 st2 → inv m' st2 → k st1) → W P T n0 b (Q.seq k) st) : W P T n0 (.loop b) Q st :=
  ⟨m + 1, iter_rule inv hs m st st' hw h0⟩

theorem Weak.slots {n0 : Nat} {fr fr' : List SV} {hp : Nat → Option Blk} (h : leL fr fr') : Weak n0 ⟨fr, hp⟩ ⟨fr', hp⟩ := Weak.drop h fun _ _ h => h

/-- What the library's own equations are, no longer by computation. -/
theorem vv : (type_of% @need_some) ∧ (type_of% @need_putO_some) ∧ (type_of% @tab_cons) ∧ (type_of% @tab_nil) ∧ (type_of% @List.set_cons_succ.{0}) ∧ (type_of% @List.set_cons_zero.{0}) ∧ (type_of% @List.getElem?_cons_succ.{0}) ∧ (type_of% @List.getElem?_cons_zero.{0}) ∧ (type_of% @Option.bind_some.{0, 0}) ∧ (type_of% @Option.map_some.{0, 0}) ∧ (type_of% @Option.map_none.{0, 0}) ∧ (type_of% @List.getD_cons_succ.{0}) ∧ (type_of% @List.getD_cons_zero.{0}) ∧ (type_of% @List.map_cons.{0, 0}) ∧ (type_of% @List.map_nil.{0, 0}) ∧ (type_of% @List.take_succ_cons.{0}) ∧ (type_of% @List.take_zero.{0}) ∧ (type_of% @List.drop_succ_cons.{0}) ∧ (type_of% @List.drop_zero.{0}) ∧ (type_of% @List.length_cons.{0}) ∧ (type_of% @List.length_nil.{0}) ∧ (type_of% @List.cons_append.{0}) ∧ (type_of% @List.nil_append.{0}) ∧ (type_of% @List.replicate_succ.{0}) ∧ (type_of% @List.replicate_zero.{0}) ∧ (type_of% @Nat.zero_add) ∧ (type_of% @Nat.add_zero) ∧ (type_of% @Bool.not_true) ∧ (type_of% @Bool.not_false) := ⟨@need_some, @need_putO_some, @tab_cons, @tab_nil, @List.set_cons_succ.{0}, @List.set_cons_zero.{0}, @List.getElem?_cons_succ.{0}, @List.getElem?_cons_zero.{0}, @Option.bind_some.{0, 0}, @Option.map_some.{0, 0}, @Option.map_none.{0, 0}, @List.getD_cons_succ.{0}, @List.getD_cons_zero.{0}, @List.map_cons.{0, 0}, @List.map_nil.{0, 0}, @List.take_succ_cons.{0}, @List.take_zero.{0}, @List.drop_succ_cons.{0}, @List.drop_zero.{0}, @List.length_cons.{0}, @List.length_nil.{0}, @List.cons_append.{0}, @List.nil_append.{0}, @List.replicate_succ.{0}, @List.replicate_zero.{0}, @Nat.zero_add, @Nat.add_zero, @Bool.not_true, @Bool.not_false⟩

end Go.V
