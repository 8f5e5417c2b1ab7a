/- A part of the proof. No condition. -/
import Derived.Test.YtclapampnmjmoaaGreatDoorUF
import Derived.MapKept
set_option linter.unusedVariables false
set_option linter.unusedSimpArgs false
set_option linter.unusedSectionVars false
namespace Go.U
open Go
section
variable {P : Program} [Gl P] {Y : TT P} {X : Ctx P} {st : St} {a : Act} {w : World} {β : Nat → Option BA} {S : Nat → Prop}
theorem indexAddrS_sound {t : TypeId} {u v : Value} {p q r : SV} (hr : Rel X st a.tmps w β S) (hu : RS w β S u p) (hv : RS w β S v q)
    (h : indexAddrS Y st.hp t p q = some r) : ∃ z, (∀ w, (Instr.indexAt t u v).run P w = .ok z w) ∧ RS w β S z r := by
  unfold indexAddrS at h
  split at h
  · rename_i e t xs k n ht
    obtain ⟨d', h1, h2⟩ := tdAt_some ht
    have := td_sl h2; subst this
    obtain rfl := hv.inv_i
    split at h
    · rename_i hn
      obtain ⟨hn0, hsz⟩ := hn
      cases hel : xs[n.toNat]? with
      | none => rw [hel] at h; cases h
      | some el =>
        rw [hel] at h; cases h
        have hlt : n.toNat < xs.length := (List.getElem?_eq_some_iff.1 hel).1
        cases hu.inv_d with
        | rov0 A c t => simp at hlt
        | rov b o c t xs us hS hb hne hc hcell hd =>
          have hn1 : n < (xs.length : Int) := by omega
          refine ⟨_, fun w => ?_, RS.rptr b (o + n.toNat * t.size) (t.enc el) (fun j => us n.toNat j) hS hb (fun j x hj => hcell _ el j x hel hj) (fun j x hj => hd _ el j x hel hj)⟩
          have htd : ∀ m e', TypeDesc.slice e ≠ TypeDesc.array m e' := fun _ _ h => by cases h
          simp [Instr.indexAt, asIntOf, run_underlying h1, hn0, hn1, run_sizeOf hsz, addr_add]
    · cases h
  · rename_i e b k n ht
    obtain ⟨d', h1, h2⟩ := tdAt_some ht
    have := td_sl h2; subst this
    obtain rfl := hv.inv_i
    split at h
    · rename_i kb hk
      split at h
      · rename_i hn
        obtain ⟨hn0, hlt, hsz⟩ := hn
        cases h
        cases hu with
        | all0 A b hbn => have := (hr.hp b kb hk).zero hbn; omega
        | all b c ba hb hc hnn =>
          obtain ⟨hs, hl⟩ := (hr.hp b kb hk).facts hb
          have hn1 : n < (ba.len : Int) := by omega
          refine ⟨_, fun w => ?_, RS.ptr b n.toNat 0 ba hb⟩
          simp [Instr.indexAt, asIntOf, run_underlying h1, hn0, hn1, run_sizeOf hsz, addr_add, hs]
      · cases h
    · cases h
  · rename_i e b off len k n ht
    obtain ⟨d', h1, h2⟩ := tdAt_some ht
    have := td_sl h2; subst this
    obtain rfl := hv.inv_i
    split at h
    · rename_i kb hk
      split at h
      · rename_i hn
        obtain ⟨hn0, hlt, hsz⟩ := hn
        cases h
        cases hu with
        | sl0 A b off => omega
        | sl b off len c ba hb hc hnn =>
          have hn1 : n < (len : Int) := by omega
          have hs : kb.s = ba.s := ((hr.hp b kb hk).facts hb).1.symm
          refine ⟨_, fun w => ?_, RS.ptr b (off + n.toNat) 0 ba hb⟩
          simp [Instr.indexAt, asIntOf, run_underlying h1, hn0, hn1, run_sizeOf hsz, addr_add, hs, Nat.add_mul, Nat.add_assoc]
      · cases h
    · cases h
  · rename_i m e b el c k n ht
    obtain ⟨d', h1, h2⟩ := tdAt_some ht
    have := td_arr h2; subst this
    obtain rfl := hv.inv_i
    split at h
    · rename_i s hsz
      split at h
      · rename_i hn
        cases h
        cases hu with
        | ptr b e c ba hb =>
          have hn1 : n < (m : Int) := by omega
          refine ⟨.pointer (some ⟨ba.b, ba.o + el * ba.s + (c + n.toNat * s), none⟩), fun w => ?_, ?_⟩
          case refine_2 =>
            unfold arrPtr
            split
            · rename_i s' mv t' xs hk
              split
              · rename_i hs
                obtain ⟨rfl, rfl⟩ := hs
                have hf := ((hr.hp b _ hk).facts hb).1
                have := RS.ptr (w := w) (β := β) (S := S) b (el + n.toNat) 0 ba hb
                have e : ba.o + (el + n.toNat) * ba.s + 0 = ba.o + el * ba.s + (0 + n.toNat * s') := by
                  have : s' = ba.s := hf.symm
                  rw [this, Nat.add_mul]; omega
                rw [e] at this
                exact this
              · exact RS.ptr b el (c + n.toNat * s) ba hb
            · exact RS.ptr b el (c + n.toNat * s) ba hb
          simp [Instr.indexAt, asIntOf, run_underlying h1, Instr.sureAddr, hn.1, hn1, run_sizeOf hsz, addr_add, Nat.add_assoc]
      · cases h
    · cases h
  · rename_i m e cs k n ht
    obtain ⟨d', h1, h2⟩ := tdAt_some ht
    have := td_arr h2; subst this
    obtain rfl := hv.inv_i
    split at h
    · rename_i s hsz
      split at h
      · rename_i hn
        cases h
        cases hu with
        | rptr b o cs us hS hb hcell hd =>
          have hn1 : n < (m : Int) := by omega
          refine ⟨_, fun w => ?_, RS.rptr b (o + n.toNat * s) (cs.drop (n.toNat * s)) (fun j => us (n.toNat * s + j)) hS hb (fun j x hj => ?_) (fun j x hj => ?_)⟩
          · simp [Instr.indexAt, asIntOf, run_underlying h1, Instr.sureAddr, hn.1, hn1, run_sizeOf hsz, addr_add]
          · rw [List.getElem?_drop] at hj; rw [Nat.add_assoc]; exact hcell _ x hj
          · rw [List.getElem?_drop] at hj; exact hd _ x hj
      · cases h
    · cases h
  · rename_i e g cs k n ht
    obtain ⟨d', h1, h2⟩ := tdAt_some ht
    have := td_sl h2; subst this
    obtain rfl := hv.inv_i
    split at h
    case isFalse => cases h
    rename_i hn
    obtain ⟨rfl, hn0, hsz⟩ := hn
    cases hx : cs[n.toNat]? with
    | none => rw [hx] at h; cases h
    | some x =>
      rw [hx] at h; cases h
      cases hu with
      | clo f vs cs hf hsz2 hcs => exact absurd hf (by decide)
      | fsl b o m c cs us hS hb hm hc hcell hd =>
        have hlt : n.toNat < cs.length := (List.getElem?_eq_some_iff.1 hx).1
        have hn1 : n < (m : Int) := by omega
        refine ⟨_, fun w => ?_, RS.fpt b (o + n.toNat) (us n.toNat) x hS hb (hcell _ x hx) (hd _ x hx)⟩
        simp [Instr.indexAt, asIntOf, run_underlying h1, Instr.sureAddr, hn0, hn1, run_sizeOf hsz, addr_add]
  · cases h
theorem indexS_sound {t : TypeId} {u v : Value} {p q r : SV} (hu : RS w β S u p) (hv : RS w β S v q)
    (h : indexS Y t p q = some r) : ∃ z, (∀ w, (Instr.index t u v).run P w = .ok z w) ∧ RS w β S z r := by
  unfold indexS at h
  split at h
  · rename_i l k n ht
    obtain ⟨d', h1, h2⟩ := tdAt_some ht
    have := td_str h2; subst this
    obtain rfl := hv.inv_i
    obtain rfl := hu.inv_str
    split at h
    · rename_i hn
      cases hel : l[n.toNat]? with
      | none => rw [hel] at h; cases h
      | some b =>
        rw [hel] at h; cases h
        have hlt : n.toNat < l.length := (List.getElem?_eq_some_iff.1 hel).1
        have hb : l[n.toNat] = b := (List.getElem?_eq_some_iff.1 hel).2
        have hlt' : n.toNat < (ByteArray.mk l.toArray).size := by simpa [ByteArray.size] using hlt
        have hg : (ByteArray.mk l.toArray)[n.toNat]? = some b := by
          rw [ByteArray.getElem?_lt' _ _ hlt', ← hb]; rfl
        refine ⟨_, fun w => ?_, .d (.i _ _)⟩
        simp [Instr.index, asIntOf, run_underlying h1, hn, hg]
    · cases h
  · cases h
theorem bytes_of_cells {src e dst : TypeId} {b o c : Nat} {xs : List Int} (h1 : P.underlying src = some (.slice e)) (h2 : P.underlying e = some (.int .u8)) (h3 : P.underlying dst = some .string)
    (hc : ∀ (i : Nat) n, xs[i]? = some n → w.cell? ⟨b, o + i, none⟩ = some (.int .u8 n)) :
    (convert src dst (.slice (some ⟨b, o, none⟩) xs.length c)).run P w = .ok (.string ⟨(toB xs).toArray⟩) w := by
  have := run_convert_bytes_arg (P := P) w src e h1 h2 b o xs.length c xs (by simp) (fun i hi => by
    rw [hc i xs[i] (List.getElem?_eq_getElem hi)]
    simp [List.getD, hi]) dst h3
  rw [this]
  rfl
theorem convS_sound {src dst : TypeId} {u : Value} {p r : SV} (hr : Rel X st a.tmps w β S) (hu : RS w β S u p) (h : convS Y st.hp src dst p = some r) :
    ∃ v, (∀ w', w' = w ∨ (match tdAt Y src with | some (.int _) => true | _ => false) = true → (convert src dst u).run P w' = .ok v w') ∧ RS w β S v r := by
  unfold convS at h
  split at h
  · rename_i td k k' n hs ht
    obtain ⟨d1, s1, s2⟩ := tdAt_some hs
    obtain ⟨d2, t1, t2⟩ := tdAt_some ht
    have := td_int t2; subst this
    obtain rfl := hu.inv_i
    cases h
    exact ⟨_, fun w _ => by simp [convert, run_underlying s1, run_underlying t1, Conv.intToInt], .d (.i _ _)⟩
  · rename_i td l hs ht
    obtain ⟨d1, s1, s2⟩ := tdAt_some hs
    obtain ⟨d2, t1, t2⟩ := tdAt_some ht
    have := td_str t2; subst this
    obtain rfl := hu.inv_str
    cases h
    refine ⟨_, fun w _ => ?_, .d (.str _)⟩
    simp [convert, run_underlying s1, run_underlying t1]
  · rename_i e xs hs ht
    obtain ⟨d1, s1, s2⟩ := tdAt_some hs
    obtain ⟨d2, t1, t2⟩ := tdAt_some ht
    have := td_str t2; subst this
    have := td_sl s2; subst this
    split at h
    · rename_i he
      obtain ⟨d3, e1, e2⟩ := tdAt_some he
      have := td_int e2; subst this
      cases h
      rcases hu.inv_d.rov_inv with ⟨A, c, rfl, rfl⟩ | ⟨b, o, c, us, rfl, hS, hb', hne, hc, hcell, hd⟩
      · refine ⟨_, fun w' hw => (by rcases hw with rfl | hw; (· rfl); (· rw [hs] at hw; cases hw) : w' = w) ▸ ?_, .d (.str _)⟩
        cases A with
        | none => rw [run_convert_bytes_nil w src e s1 e1 0 c dst t1]; rfl
        | some A =>
          rw [run_convert_bytes_string w src dst e _ 0 c s1 e1 t1, run_bytesToString w A 0 c [] (by simp [loadCells, loadCellsFrom])]
          rfl
      · refine ⟨_, fun w' hw => (by rcases hw with rfl | hw; (· rfl); (· rw [hs] at hw; cases hw) : w' = w) ▸ bytes_of_cells s1 e1 t1 (fun i n hi => ?_), .d (.str _)⟩
        have h3 := hcell i n 0 _ hi rfl
        have h4 := (hd i n 0 _ hi rfl).inv_i
        rw [h4] at h3
        simpa [Ty.size] using h3
    · cases h
  · rename_i e hs ht
    obtain ⟨d1, s1, s2⟩ := tdAt_some hs
    obtain ⟨d2, t1, t2⟩ := tdAt_some ht
    have := td_str t2; subst this
    have := td_sl s2; subst this
    split at h
    · rename_i he
      obtain ⟨d3, e1, e2⟩ := tdAt_some he
      have := td_int e2; subst this
      cases h
      cases hu.inv_d with
      | emp =>
        refine ⟨_, fun w' hw => (by rcases hw with rfl | hw; (· rfl); (· rw [hs] at hw; cases hw) : w' = w) ▸ ?_, .d (.str [])⟩
        rw [run_convert_bytes_nil w src e s1 e1 0 0 dst t1]; rfl
    · cases h
  · rename_i e b off len hs ht
    obtain ⟨d1, s1, s2⟩ := tdAt_some hs
    obtain ⟨d2, t1, t2⟩ := tdAt_some ht
    have := td_str t2; subst this
    have := td_sl s2; subst this
    split at h
    · rename_i mv xs0 he hk
      obtain ⟨xs, rfl⟩ : ∃ ys : List Int, ys = xs0 := ⟨xs0, rfl⟩
      obtain ⟨d3, e1, e2⟩ := tdAt_some he
      have := td_int e2; subst this
      split at h
      · rename_i hle
        cases h
        have hle2 : off + len ≤ List.length (α := Int) xs := hle
        have hlen : ((List.drop off xs).take len).length = len := by rw [List.length_take, List.length_drop]; omega
        cases hu with
        | sl0 A b off =>
          refine ⟨_, fun w' hw => (by rcases hw with rfl | hw; (· rfl); (· rw [hs] at hw; cases hw) : w' = w) ▸ ?_, .d (.str _)⟩
          cases A with
          | none => rw [run_convert_bytes_nil w src e s1 e1 0 0 dst t1]; rfl
          | some A =>
            rw [run_convert_bytes_string w src dst e _ 0 0 s1 e1 t1, run_bytesToString w A 0 0 [] (by simp [loadCells, loadCellsFrom])]
            rfl
        | sl b off len c ba hba hc hnn =>
          have hs1 : ba.s = 1 := ((hr.hp b _ hk).facts hba).1
          have := bytes_of_cells (w := w) (P := P) (b := ba.b) (o := ba.o + off * ba.s) (c := c) (xs := (List.drop off xs).take len) s1 e1 t1 (fun i n hi => ?_)
          · rw [hlen] at this
            exact ⟨_, fun w' hw => (by rcases hw with rfl | hw; (· rfl); (· rw [hs] at hw; cases hw) : w' = w) ▸ this, .d (.str _)⟩
          · rw [List.getElem?_take] at hi
            split at hi
            · rw [List.getElem?_drop] at hi
              obtain ⟨u, a1, _, a3⟩ := (hr.hp b _ hk).at_ hba (e := off + i) (c := 0) (sv := .d (.i .u8 n)) (by show (xs[off + i]?).bind _ = _; rw [hi]; rfl)
              rw [a3.inv_i] at a1
              rw [← a1]
              simp [hs1, Nat.add_assoc]
            · cases hi
      · cases h
    · cases h
  · rename_i e b hs ht
    obtain ⟨d1, s1, s2⟩ := tdAt_some hs
    obtain ⟨d2, t1, t2⟩ := tdAt_some ht
    have := td_str t2; subst this
    have := td_sl s2; subst this
    split at h
    · rename_i mv xs0 he hk
      obtain ⟨xs, rfl⟩ : ∃ ys : List Int, ys = xs0 := ⟨xs0, rfl⟩
      obtain ⟨d3, e1, e2⟩ := tdAt_some he
      have := td_int e2; subst this
      cases h
      cases hu with
      | all0 A b hbn =>
        have h0 : xs = [] := List.length_eq_zero_iff.1 ((hr.hp b _ hk).zero hbn)
        subst h0
        refine ⟨_, fun w' hw => (by rcases hw with rfl | hw; (· rfl); (· rw [hs] at hw; cases hw) : w' = w) ▸ ?_, .d (.str _)⟩
        cases A with
        | none => rw [run_convert_bytes_nil w src e s1 e1 0 0 dst t1]; rfl
        | some A =>
          rw [run_convert_bytes_string w src dst e _ 0 0 s1 e1 t1, run_bytesToString w A 0 0 [] (by simp [loadCells, loadCellsFrom])]
          rfl
      | all b c ba hba hc hnn =>
        obtain ⟨hs1, hl⟩ := (hr.hp b _ hk).facts hba
        have := bytes_of_cells (w := w) (P := P) (b := ba.b) (o := ba.o) (c := c) (xs := xs) s1 e1 t1 (fun i n hi => ?_)
        · rw [hl]
          exact ⟨_, fun w' hw => (by rcases hw with rfl | hw; (· rfl); (· rw [hs] at hw; cases hw) : w' = w) ▸ this, .d (.str _)⟩
        · obtain ⟨u, a1, _, a3⟩ := (hr.hp b _ hk).at_ hba (e := i) (c := 0) (sv := .d (.i .u8 n)) (by show (xs[i]?).bind _ = _; rw [hi]; rfl)
          rw [a3.inv_i] at a1
          rw [← a1]
          simp [hs1]
    · cases h
  · rename_i t b hs ht
    obtain ⟨d1, s1, s2⟩ := tdAt_some hs
    have := td_ptr s2; subst this
    obtain ⟨d2, t1, t2⟩ := tdAt_some ht
    have := td_up t2; subst this
    split at h
    · rename_i s mv T els z hk hz
      split at h
      · rename_i hzs
        cases h
        subst hzs
        cases hu with
        | ptr b e c ba hba =>
          obtain ⟨j, j1, j2⟩ := szOf_some hz
          rcases hr.hp b _ hk with (⟨_, hno⟩ | ⟨_, _, _, _, _, hm, _⟩) | ⟨ba', arr, ty, fz, g1, g2, g3, g4, g5, g6, g7, g8, g9⟩
          · rw [hba] at hno; cases hno
          · cases hm
          · rw [hba] at g1; cases g1
            obtain ⟨e1, e2, e3⟩ := g2.2.2 (T, true) rfl
            simp only at e1 e2 e3 g3
            have hsh : w.shape? ba.b = some (ty, arr.size) := by simp [World.shape?, g4]
            have := Lib.run_to_unsafe (P := P) w (src := src) (dst := dst) ⟨ba.b, ba.o + 0 * ba.s + 0, none⟩ s1 t1 j1 (by omega) hsh (by simp only; have := e3 trivial; omega)
            exact ⟨_, fun w' hw => (by rcases hw with rfl | hw; (· rfl); (· rw [hs] at hw; cases hw) : w' = w) ▸ this, RS.ptr b 0 0 ba hba⟩
      · cases h
    · cases h
  · rename_i t b hs ht
    obtain ⟨d1, s1, s2⟩ := tdAt_some hs
    have := td_up s2; subst this
    obtain ⟨d2, t1, t2⟩ := tdAt_some ht
    have := td_ptr t2; subst this
    split at h
    · rename_i s mv T els z hk hz
      split at h
      · rename_i hlies
        cases h
        cases hu with
        | ptr b e c ba hba =>
          obtain ⟨j, j1, j2⟩ := szOf_some hz
          rcases hr.hp b _ hk with (⟨_, hno⟩ | ⟨_, _, _, _, _, hm, _⟩) | ⟨ba', arr, ty, fz, g1, g2, g3, g4, g5, g6, g7, g8, g9⟩
          · rw [hba] at hno; cases hno
          · cases hm
          · rw [hba] at g1; cases g1
            obtain ⟨e1, e2, e3⟩ := g2.2.2 (T, true) rfl
            simp only at e1 e2 e3 g3
            have hsh : w.shape? ba.b = some (ty, arr.size) := by simp [World.shape?, g4]
            have := Lib.run_from_unsafe (P := P) w (src := src) (dst := dst) ⟨ba.b, ba.o + 0 * ba.s + 0, none⟩ s1 t1 j1 hsh (by
              have e4 : arr.size = s := by have := e3 trivial; omega
              simp only [e2, e1, e4, Nat.zero_mul, Nat.add_zero]; exact hlies)
            exact ⟨_, fun w' hw => (by rcases hw with rfl | hw; (· rfl); (· rw [hs] at hw; cases hw) : w' = w) ▸ this, RS.ptr b 0 0 ba hba⟩
      · cases h
    · cases h
  · cases h
theorem unS_sound {op : UnOp} {u : Value} {p r : SV} (hu : RS w β S u p) (h : unS op p = some r) : ∃ v, (∀ w, (Op.unary op u).run P w = .ok v w) ∧ RS w β S v r := by
  unfold unS at h
  split at h
  · cases h; obtain rfl := hu.inv_b; exact ⟨_, fun w => by simp [Op.unary], .d (.b _)⟩
  · cases h; obtain rfl := hu.inv_i; exact ⟨_, fun w => by simp only [unary_neg, Op.intArith, Sem.run_pure], .d (.i _ _)⟩
  · cases h; obtain rfl := hu.inv_i; exact ⟨_, fun w => by simp only [unary_xor, intBits_xor, Sem.run_pure], .d (.i _ _)⟩
  · cases h
theorem eqPart_sound {op : BinOp} {t : TypeId} {x y : Operand} {p q r : SV} (hu : RS w β S (a.eval x) p) (hv : RS w β S (a.eval y) q) (h : eqPart Y op t y p q = some r) :
    ∃ z, (∀ w, (do eqGuard op t x y (a.eval x) (a.eval y); binOp op t (a.eval x) (a.eval y) : Sem Value).run P w = .ok z w) ∧ RS w β S z r := by
  unfold eqPart at h
  split at h
  · rename_i hc
    have hy : p = .d (.er false) → q = .d (.er false) → ∃ c, y = .const c := by
      rintro rfl _
      cases y with
      | const c => exact ⟨c, rfl⟩
      | _ => simp [isConstB, isBoolS, isPtrS] at hc
    split at h
    · cases he : eqS (tdAt Y t) (fun t => (Y.f t).isSome) p q with
      | none => rw [he] at h; cases h
      | some b => rw [he] at h; cases h; exact ⟨_, fun w => (eqS_sound hu hv he hy w).1, .d (.b _)⟩
    · cases he : eqS (tdAt Y t) (fun t => (Y.f t).isSome) p q with
      | none => rw [he] at h; cases h
      | some b => rw [he] at h; cases h; exact ⟨_, fun w => (eqS_sound hu hv he hy w).2, .d (.b _)⟩
    · cases h
  · cases h
theorem eqT_sound {t : TypeId} {cs cs' : List SV} {vs vs' : Array Value} {o d : Nat} {r : Bool} (hsz : vs.size = cs.length) (hc : ∀ (j : Nat) u c, vs[j]? = some u → cs[j]? = some c → RS w β S u c)
    (hsz' : vs'.size = cs'.length) (hc' : ∀ (j : Nat) u c, vs'[j]? = some u → cs'[j]? = some c → RS w β S u c) (h : eqT (tdAt Y t) cs[o]? cs'[o]? = some r) :
    ∃ u v, (∀ w, (part t vs o).run P w = .ok u w) ∧ (∀ w, (part t vs' o).run P w = .ok v w) ∧ ∀ w, (Op.equalIn (d + 1) t u v).run P w = .ok r w := by
  have key : ∀ {c c' : SV} {ty : TypeDesc}, cs[o]? = some c → cs'[o]? = some c' → P.underlying t = some ty → isAggT (tdOf P ty) = false →
      (∀ u v, RS w β S u c → RS w β S v c' → ∀ w, (Op.equalIn (d + 1) t u v).run P w = .ok r w) →
      ∃ u v, (∀ w, (part t vs o).run P w = .ok u w) ∧ (∀ w, (part t vs' o).run P w = .ok v w) ∧ ∀ w, (Op.equalIn (d + 1) t u v).run P w = .ok r w := by
    intro c c' ty h1 h2 h3 h4 h5
    have hagg : ∀ w, (isAgg t).run P w = .ok false w := by
      intro w
      simp only [isAgg, Sem.run_bind, run_underlying h3, Result.andThen_ok]
      rw [← h4]
      cases ty <;> rfl
    have hl : o < vs.size := by rw [hsz]; exact (List.getElem?_eq_some_iff.1 h1).1
    have hl' : o < vs'.size := by rw [hsz']; exact (List.getElem?_eq_some_iff.1 h2).1
    have hv : vs[o]? = some vs[o] := Array.getElem?_eq_getElem hl
    have hv' : vs'[o]? = some vs'[o] := Array.getElem?_eq_getElem hl'
    refine ⟨vs[o], vs'[o], fun w => by simp [part, hagg, hv], fun w => by simp [part, hagg, hv'], h5 _ _ (hc o _ _ hv h1) (hc' o _ _ hv' h2)⟩
  unfold eqT at h
  split at h
  · rename_i k0 k x k' y ht h1 h2
    obtain ⟨d', g1, g2⟩ := tdAt_some ht
    have := td_int g2; subst this
    split at h
    · rename_i hk
      subst hk
      cases h
      refine key h1 h2 g1 rfl fun u v hu hv w => ?_
      obtain rfl := hu.inv_i
      obtain rfl := hv.inv_i
      rw [run_equalIn_int w d t k k0 x y g1, beq_dec]
    · cases h
  · rename_i x y ht h1 h2
    obtain ⟨d', g1, g2⟩ := tdAt_some ht
    have := td_bool g2; subst this
    cases h
    refine key h1 h2 g1 rfl fun u v hu hv w => ?_
    obtain rfl := hu.inv_b
    obtain rfl := hv.inv_b
    rw [run_equalIn_bool' w d t x y g1, beq_dec]
  · rename_i x y ht h1 h2
    obtain ⟨d', g1, g2⟩ := tdAt_some ht
    have := td_str g2; subst this
    cases h
    refine key h1 h2 g1 rfl fun u v hu hv w => ?_
    obtain rfl := hu.inv_str
    obtain rfl := hv.inv_str
    rw [run_equalIn_string w d t _ _ g1, beq_dec, ByteArray.toList_mk, ByteArray.toList_mk]
  · cases h
theorem eqFs_sound {cs cs' : List SV} {vs vs' : Array Value} {d : Nat} (hsz : vs.size = cs.length) (hc : ∀ (j : Nat) u c, vs[j]? = some u → cs[j]? = some c → RS w β S u c)
    (hsz' : vs'.size = cs'.length) (hc' : ∀ (j : Nat) u c, vs'[j]? = some u → cs'[j]? = some c → RS w β S u c) :
    ∀ (gs : List Field) (r : Bool), (∀ g ∈ gs, g.name ≠ "_") → eqFs Y cs cs' (gs.map fun f => (f.offset, f.type, P.cellsOf f.type)) = some r →
      ∀ w, (Op.eqFields (d + 1) vs vs' gs).run P w = .ok r w
  | [], r, _, h => by simp [eqFs] at h
  | [g], r, hn, h => by
    intro w'
    simp only [List.map_cons, List.map_nil, eqFs] at h
    obtain ⟨u, v, h1, h2, h3⟩ := eqT_sound (P := P) (d := d) hsz hc hsz' hc' h
    simp only [Op.eqFields, if_pos (hn g (List.mem_cons_self ..)), Sem.run_bind, h1, h2, h3, Result.andThen_ok, Sem.run_ite, Sem.run_pure]
    cases r <;> rfl
  | g :: g2 :: gs, r, hn, h => by
    intro w'
    simp only [List.map_cons, eqFs] at h
    split at h
    case h_2 => cases h
    rename_i r1 r2 e1 e2
    cases h
    obtain ⟨u, v, h1, h2, h3⟩ := eqT_sound (P := P) (d := d) hsz hc hsz' hc' e1
    have ih := eqFs_sound (d := d) hsz hc hsz' hc' (g2 :: gs) r2 (fun g hg => hn g (List.mem_cons_of_mem _ hg)) e2 w'
    rw [Op.eqFields, if_pos (hn g (List.mem_cons_self ..))]
    simp only [Sem.run_bind, h1, h2, h3, Result.andThen_ok, Sem.run_ite, Sem.run_pure]
    cases r1
    · rfl
    · simpa using ih
theorem eqAgg_sound {t : TypeId} {x y : Operand} {u v : Value} {xs ys : List SV} {r : Bool} (hu : RS w β S u (.agg xs)) (hv : RS w β S v (.agg ys)) (h : eqAgg Y t xs ys = some r) :
    ∀ w, (do eqGuard .eql t x y u v; binOp .eql t u v : Sem Value).run P w = .ok (.bool r) w ∧ (do eqGuard .neq t x y u v; binOp .neq t u v : Sem Value).run P w = .ok (.bool (!r)) w := by
  intro w'
  unfold eqAgg at h
  split at h
  case isFalse => cases h
  rename_i hq
  split at h
  case h_2 => cases h
  rename_i fs ht
  obtain ⟨d', h1, h2⟩ := tdAt_some ht
  obtain ⟨gs, rfl, rfl⟩ := td_st h2
  obtain ⟨vs, rfl, hsz, hc⟩ := hu.agg_inv
  obtain ⟨vs', rfl, hsz', hc'⟩ := hv.agg_inv
  have hok := Y.eqOk t hq
  unfold eqOkB at hok
  rw [h1] at hok
  simp only [Bool.and_eq_true, Bool.not_eq_true', List.all_eq_true, bne_iff_ne] at hok
  obtain ⟨⟨k1, k2⟩, k3⟩ := hok
  have hf := eqFs_sound (P := P) (d := 9998) hsz hc hsz' hc' gs.toList r k1 h w'
  have hfo : P.fieldsOf t = gs := by unfold Program.fieldsOf; rw [h1]
  have he := run_equalIn_agg (P := P) w' 9999 t vs vs' (by rw [hfo, h1]) k2
  rw [hfo, hf] at he
  constructor
  · simp only [Sem.run_bind, run_eqGuard_agg w' _ t x y vs vs' k3, Result.andThen_ok, run_eql_struct, he]
  · simp only [Sem.run_bind, run_eqGuard_agg w' _ t x y vs vs' k3, Result.andThen_ok, run_neq_struct, he]
theorem binS_sound {op : BinOp} {t : TypeId} {x y : Operand} {p q r : SV} (hu : RS w β S (a.eval x) p) (hv : RS w β S (a.eval y) q) (h : binS Y op t y p q = some r) :
    ∃ z, (∀ w, (do eqGuard op t x y (a.eval x) (a.eval y); binOp op t (a.eval x) (a.eval y) : Sem Value).run P w = .ok z w) ∧ RS w β S z r := by
  unfold binS at h
  split at h
  · split at h
    · obtain ⟨r', hr, rfl⟩ := Option.map_eq_some_iff.1 h
      exact ⟨_, fun w => (eqAgg_sound hu hv hr w).1, .d (.b _)⟩
    · obtain ⟨r', hr, rfl⟩ := Option.map_eq_some_iff.1 h
      exact ⟨_, fun w => (eqAgg_sound hu hv hr w).2, .d (.b _)⟩
    · cases h
  · split at h
    · rename_i b hb
      cases h
      obtain ⟨z, h1, h2⟩ := binD_sound (P := P) (t := t) (x := x) (y := y) hu.inv_d hv.inv_d hb
      exact ⟨z, h1, .d h2⟩
    · exact eqPart_sound hu hv h
  · exact eqPart_sound hu hv h
theorem lenS_sound {u : Value} {t ty : TypeId} {p : SV} {n : Nat} (hr : Rel X st a.tmps w β S) (hu : RS w β S u p) (h : lenS st.hp (tdAt Y t) p = some n) :
    ∀ w, (Builtin.len_ #[t] ty #[u]).run P w = .ok (.int .i64 n) w := by
  intro w'
  unfold lenS at h
  split at h
  · rename_i l ht
    cases h
    obtain ⟨d', h1, h2⟩ := tdAt_some ht
    have := td_str h2; subst this
    obtain rfl := hu.inv_str
    have hz : (ByteArray.mk l.toArray).size = l.length := by simp [ByteArray.size]
    simp only [Builtin.len_, Sem.run_bind, run_underlying h1, Sem.run_pure, Result.andThen_ok, goInt, hz, List.getElem?_toArray, List.getElem?_cons_zero]
  · rename_i ht
    cases h
    obtain ⟨d', h1, h2⟩ := tdAt_some ht
    have := td_sl h2; subst this
    rcases hu.inv_d.rov_inv with ⟨A, c, rfl, rfl⟩ | ⟨b, o, c, us, rfl, _⟩ <;> simp [Builtin.len_, run_underlying h1, goInt]
  · rename_i ht
    cases h
    obtain ⟨d', h1, h2⟩ := tdAt_some ht
    have := td_sl h2; subst this
    cases hu.inv_d; simp [Builtin.len_, run_underlying h1, goInt]
  · rename_i b ht
    obtain ⟨d', h1, h2⟩ := tdAt_some ht
    have := td_sl h2; subst this
    cases hk : st.hp b with
    | none => rw [hk] at h; cases h
    | some k =>
      rw [hk] at h; cases h
      cases hu with
      | bb0 b hb => simp [Builtin.len_, run_underlying h1, goInt, (hr.hp b k hk).zero hb]
      | bb b c ba hb hc hn => simp [Builtin.len_, run_underlying h1, goInt, ((hr.hp b k hk).facts hb).2]
  · rename_i ht
    cases h
    obtain ⟨d', h1, h2⟩ := tdAt_some ht
    have := td_sl h2; subst this
    cases hu <;> simp [Builtin.len_, run_underlying h1, goInt]
  · rename_i b ht
    obtain ⟨d', h1, h2⟩ := tdAt_some ht
    have := td_sl h2; subst this
    cases hk : st.hp b with
    | none => rw [hk] at h; cases h
    | some k =>
      rw [hk] at h; cases h
      cases hu with
      | all0 A b hb => simp [Builtin.len_, run_underlying h1, goInt, (hr.hp b k hk).zero hb]
      | all b c ba hb hc hn => simp [Builtin.len_, run_underlying h1, goInt, ((hr.hp b k hk).facts hb).2]
  · cases h
theorem minMaxS_sound {isMax : Bool} {xs : List Operand} {ts : Array TypeId} {ty : TypeId} {r : SV} (hr : Rel X st a.tmps w β S) (h : minMaxS isMax (xs.map (ev st)) = some r) :
    ∃ v, (∀ w, (if isMax then Builtin.max_ ts ty (xs.map a.eval).toArray else Builtin.min_ ts ty (xs.map a.eval).toArray).run P w = .ok v w) ∧ RS w β S v r := by
  match xs, h with
  | [x, y], h =>
    have hx := ev_sound hr x
    have hy := ev_sound hr y
    simp only [List.map_cons, List.map_nil] at h ⊢
    generalize ev st x = p at *
    generalize ev st y = q at *
    unfold minMaxS at h
    split at h
    · rename_i k x' k' y' e
      simp only [List.cons.injEq, and_true] at e
      obtain ⟨rfl, rfl⟩ := e
      split at h
      · rename_i hk
        subst hk
        cases h
        rw [hx.inv_i, hy.inv_i]
        cases isMax
        · exact ⟨_, fun w => by simp [Builtin.min_, Builtin.min2], .d (.i _ _)⟩
        · exact ⟨_, fun w => by simp [Builtin.max_, Builtin.max2], .d (.i _ _)⟩
      · cases h
    · cases h
  | [], h => simp [minMaxS] at h
  | [x], h => simp [minMaxS] at h
  | x :: y :: z :: l, h => simp [minMaxS] at h
theorem RS.ptr_at {v : Value} {b e c : Nat} (h : RS w β S v (.ptr b e c)) : ∃ ba, β b = some ba ∧ v = .pointer (some ⟨ba.b, ba.o + e * ba.s + c, none⟩) := by
  cases h with | ptr b e c ba hb => exact ⟨ba, hb, rfl⟩
theorem find_at {T : Ty} (s : List UInt8) : ∀ (es : List (List UInt8 × T.den)) (ents : List MapEntry) (i0 : Nat), ents.length = es.length →
    (∀ (i : Nat) key x, es[i]? = some (key, x) → ∃ e d, ents[i]? = some e ∧ e.key = .string ⟨key.toArray⟩ ∧ T.enc x = [d] ∧ RD w S e.val d) →
    (lkO es s = none ∧ Instr.findNow .string (.string ⟨s.toArray⟩) ents i0 = some none ∧ ∀ y, upL es s y = es ++ [(s, y)]) ∨
    ∃ (j : Nat) (x : T.den) (e : MapEntry) (d : D), lkO es s = some x ∧ j < es.length ∧ ents[j]? = some e ∧ e.key = .string ⟨s.toArray⟩ ∧ T.enc x = [d] ∧ RD w S e.val d ∧ Instr.findNow .string (.string ⟨s.toArray⟩) ents i0 = some (some (i0 + j, e.val)) ∧ ∀ y, upL es s y = es.set j (s, y)
  | [], ents, i0, hl, _ => by
    have : ents = [] := List.length_eq_zero_iff.1 hl
    subst this
    exact .inl ⟨rfl, rfl, fun _ => rfl⟩
  | (key, x) :: es, ents, i0, hl, h => by
    match ents, hl with
    | e :: ents, hl =>
      obtain ⟨e', d, h1, h2, h3, h4⟩ := h 0 key x rfl
      simp at h1; subst h1
      have hb : ∀ a b : List UInt8, ((⟨a.toArray⟩ : ByteArray) == ⟨b.toArray⟩) = decide (a = b) := fun a b => by
        rw [Bool.eq_iff_iff, MapKept.bytes_beq, decide_eq_true_iff]; exact ⟨fun e => by simpa using e, fun e => by rw [e]⟩
      by_cases hs : s = key
      · subst hs
        refine .inr ⟨0, x, e, d, by simp [lkO], by simp, rfl, h2, h3, h4, by simp [Instr.findNow, h2, Instr.sameNow, hb], fun y => by simp [upL]⟩
      · rcases find_at s es ents (i0 + 1) (by simpa using hl) (fun i key x hx => h (i + 1) key x hx) with ⟨g1, g2, g3⟩ | ⟨j, x', e', d', g1, g2, g3, g4, g5, g6, g7, g8⟩
        · exact .inl ⟨by simp [lkO, hs, g1], by simp [Instr.findNow, h2, Instr.sameNow, hb, hs, g2], fun y => by simp [upL, hs, g3]⟩
        · exact .inr ⟨j + 1, x', e', d', by simp [lkO, hs, g1], by simp; omega, by simpa using g3, g4, g5, g6, by simp [Instr.findNow, h2, Instr.sameNow, hb, hs, g7]; omega, fun y => by simp [upL, hs, g8]⟩
theorem zeroT_spec (t : Ty) (ds : List D) (x : t.den) (h : zeroT t ds = some x) : ∃ d0, ds = [d0] ∧ ∀ (w : World) (S : Nat → Prop) (v : Value), RD w S v d0 → RD w S v (leafD t x) := by
  match t, ds, x, h with
  | .i k, [.i k' n], x, h =>
    simp only [zeroT] at h
    split at h
    · rename_i e; subst e; cases h; exact ⟨_, rfl, fun _ _ _ hv => hv⟩
    · cases h
  | .b, [.b y], x, h => cases h; exact ⟨_, rfl, fun _ _ _ hv => hv⟩
  | .s, [.str y], x, h => cases h; exact ⟨_, rfl, fun _ _ _ hv => hv⟩
  | .l t, [.emp], x, h => cases h; exact ⟨_, rfl, fun _ _ _ hv => by cases hv; exact .rov0 _ _ _⟩
theorem cells_one1 {v : Value} (h : v.oneCell' = true) : v.cells.toList = [v] := by cases v <;> first | rfl | (simp [Value.oneCell'] at h)
theorem lookupS_sound {t : TypeId} {u v : Value} {p q r : SV} {ok : Bool} (hr : Rel X st a.tmps w β S) (hu : RS w β S u p) (hv : RS w β S v q) (h : lookupS Y st.hp t p q ok = some r) :
    ∃ z, (Instr.lookup t u v ok).run P w = .ok z w ∧ RS w β S z r := by
  unfold lookupS at h
  split at h
  · rename_i kt e g b s ht
    obtain ⟨d', h1, h2⟩ := tdAt_some ht
    have := td_map h2; subst this
    obtain rfl := hv.inv_str
    split at h
    · rename_i hg
      subst hg
      split at h
      · rename_i sz mv T es i hkt hb hi
        obtain ⟨d2, k1, k2⟩ := tdAt_some hkt
        have := td_str k2; subst this
        split at h
        · rename_i hT
          split at h
          · rename_i z hz
            split at h
            · cases h
            · rename_i hone
              obtain ⟨j, d3, z0, z1, z2, ⟨z3, z4, z5⟩, rfl⟩ := Y.info hi
              have hz1 : z0.oneCell' = true := by
                unfold zOneB at hone
                simpa [z1, z3] using hone
              have hzero : (zeroValue e).run P w = .ok z0 w := by simp [zeroValue, typeInfo, z1, z3]
              have hzd : RD w S z0 (leafD T z) := by
                obtain ⟨d0, e1, e2⟩ := zeroT_spec T _ z hz
                simp only [cells_one1 hz1, List.map_cons, List.map_nil, List.cons.injEq, and_true] at e1
                exact e2 _ _ _ (e1 ▸ RD.ofVal _ _ _ hz1)
              cases hu with
              | clo f vs caps hf hsz hc => exact absurd hf (by decide)
              | mp r0 x0 hx0 =>
                obtain ⟨ba, hβ, he0⟩ := hx0.ptr_at
                simp only [Value.pointer.injEq, Option.some.injEq, Addr.mk.injEq] at he0
                obtain ⟨rfl, _, _⟩ := he0
                rcases hr.hp b _ hb with (⟨_, hno⟩ | ⟨T', es', ba', ents, clock, m1, m2, m3, m4, es1, m5, m6, m7⟩) | ⟨ba', arr, ty, fz, g1, _, g3, _, _, _, _, g8, _⟩
                · rw [hβ] at hno; cases hno
                · cases m1
                  rw [hβ] at m2; cases m2
                  have hck := MapKept.run_checkKey (P := P) (w := w) k1 (k := .string ⟨s.toArray⟩) trivial ents.isEmpty 9999
                  rcases find_at (T := T) (w := w) (S := S) s es1 ents.toList 0 (by simpa using m5) (fun i key x hx => by simpa using m6 i key x hx) with ⟨g1, g2, g3⟩ | ⟨j, x', e', d', g1, g2, g3, g4, g5, g6, g7, g8⟩
                  · have hfk := MapKept.run_findKey (P := P) (w := w) k1 g2
                    refine ⟨if ok then .tuple #[z0, .bool false] else z0, ?_, ?_⟩
                    · simp [Instr.lookup, run_underlying h1, MapKept.run_getObj_map m4, hck, hfk, hzero, Result.andThen]
                    · have e1 : lkV es s z = z := by rw [m7] at g1; simp [lkV, g1]
                      have e2 : lkB es s = false := by rw [m7] at g1; simp [lkB, g1]
                      cases h
                      cases ok with
                      | false => simp only [e1, Bool.false_eq_true, if_false]; exact .d hzd
                      | true =>
                        simp only [e1, e2, if_true]
                        refine .tup _ _ rfl fun i v c hi hc => ?_
                        match i with
                        | 0 => simp at hi hc; subst hi; subst hc; exact .d hzd
                        | 1 => simp at hi hc; subst hi; subst hc; exact .d (.b _)
                        | i + 2 => simp at hc
                  · have hfk := MapKept.run_findKey (P := P) (w := w) k1 g7
                    have hd : d' = leafD T x' := by rw [leafD_enc T x' hT] at g5; simpa using g5.symm
                    subst hd
                    refine ⟨if ok then .tuple #[e'.val, .bool true] else e'.val, ?_, ?_⟩
                    · simp [Instr.lookup, run_underlying h1, MapKept.run_getObj_map m4, hck, hfk, hzero, Result.andThen]
                    · have e1 : lkV es s z = x' := by rw [m7] at g1; simp [lkV, g1]
                      have e2 : lkB es s = true := by rw [m7] at g1; simp [lkB, g1]
                      cases h
                      cases ok with
                      | false => simp only [e1, Bool.false_eq_true, if_false]; exact .d g6
                      | true =>
                        simp only [e1, e2, if_true]
                        refine .tup _ _ rfl fun i v c hi hc => ?_
                        match i with
                        | 0 => simp at hi hc; subst hi; subst hc; exact .d g6
                        | 1 => simp at hi hc; subst hi; subst hc; exact .d (.b _)
                        | i + 2 => simp at hc
                · have := g8 0 0 rfl
                  simp only at this g3; omega
          · cases h
        · cases h
      · cases h
    · cases h
  · cases h
def blind {P : Program} (Y : TT P) : Op → Bool
  | .load _ _ => false
  | .lookup _ _ _ _ => false
  | .convert src _ _ => match tdAt Y src with | some (.int _) => true | _ => false
  | _ => true
theorem opVal_sound' {o : Oper} {r : SV} (hr : Rel X st a.tmps w β S) (h : opVal Y st o.op = some r) :
    ∃ v, (∀ w', w' = w ∨ blind Y o.op = true → (execOp a.eval o).run P w' = .ok (.value v) w') ∧ RS w β S v r := by
  have lift : ∀ {s : Sem Value} {v : Value} {w : World}, s.run P w = .ok v w → (do pure (Next.value (← s)) : Sem Next).run P w = .ok (.value v) w := fun h => by
    simp only [Sem.run_bind, h, Result.andThen_ok, Sem.run_pure]
  obtain ⟨dst, op, type, pos, after, guard⟩ := o
  simp only at h
  unfold opVal at h
  split at h
  · cases h; rename_i x; exact ⟨_, fun _ _ => rfl, ev_sound hr x⟩
  · cases h; rename_i x; exact ⟨_, fun _ _ => rfl, ev_sound hr x⟩
  · rename_i c x y
    split at h
    · rename_i b hb
      cases h
      have hc := ev_sound hr c
      rw [hb] at hc
      refine ⟨if b then a.eval x else a.eval y, fun w _ => ?_, ?_⟩
      · simp only [execOp, hc.inv_b, asBool, pure_bind, Sem.run_pure]
      · split
        · exact ev_sound hr x
        · exact ev_sound hr y
    · cases h
  · rename_i op t x y yt
    obtain ⟨z, h1, h2⟩ := binS_sound (P := P) (x := x) (y := y) (ev_sound hr x) (ev_sound hr y) h
    exact ⟨z, fun w _ => lift (h1 w), h2⟩
  · rename_i op t x
    obtain ⟨z, h1, h2⟩ := unS_sound (P := P) (ev_sound hr x) h
    exact ⟨z, fun w _ => lift (h1 w), h2⟩
  · rename_i x
    have hx := ev_sound hr x
    split at h
    · rename_i b e c he
      cases h
      rw [he] at hx
      generalize hu : a.eval x = u at *
      cases hx with
      | ptr b e c ba hb => exact ⟨_, fun w _ => by simp only [execOp, hu]; rfl, RS.ptr b e c ba hb⟩
    · rename_i cs he
      cases h
      rw [he] at hx
      have hx' := hx
      generalize hu : a.eval x = u at *
      cases hx with
      | rptr b o cs us hS hb hcell hd => exact ⟨_, fun w _ => by simp only [execOp, hu]; rfl, hx'⟩
    · cases h
  · rename_i src d x
    obtain ⟨z, h1, h2⟩ := convS_sound (P := P) hr (ev_sound hr x) h
    exact ⟨z, fun w' hw => lift (h1 w' (by simpa [blind] using hw)), h2⟩
  · rename_i t x lo hi mx
    obtain ⟨z, h1, h2⟩ := sliceS_sound (P := P) hr h
    exact ⟨z, fun w _ => lift (h1 w), h2⟩
  · rename_i t x i
    obtain ⟨z, h1, h2⟩ := indexAddrS_sound (P := P) hr (ev_sound hr x) (ev_sound hr i) h
    exact ⟨z, fun w _ => lift (h1 w), h2⟩
  · rename_i t x i
    obtain ⟨z, h1, h2⟩ := indexS_sound (P := P) (ev_sound hr x) (ev_sound hr i) h
    exact ⟨z, fun w _ => lift (h1 w), h2⟩
  · rename_i t x f
    obtain ⟨z, h1, h2⟩ := fieldAddrS_sound (P := P) (ev_sound hr x) h
    exact ⟨z, fun w _ => lift (h1 w), h2⟩
  · rename_i t x f
    obtain ⟨z, h1, h2⟩ := fieldS_sound (P := P) (ev_sound hr x) h
    exact ⟨z, fun w _ => lift (h1 w), h2⟩
  · rename_i t x
    obtain ⟨z, h1, h2⟩ := loadS_sound (P := P) hr (ev_sound hr x) h
    exact ⟨z, fun w' hw => (by rcases hw with rfl | hw; (· exact lift h1); (· cases hw)), h2⟩
  · rename_i t x k ok
    obtain ⟨z, h1, h2⟩ := lookupS_sound (P := P) hr (ev_sound hr x) (ev_sound hr k) h
    exact ⟨z, fun w' hw => (by rcases hw with rfl | hw; (· exact lift h1); (· cases hw)), h2⟩
  · rename_i x i
    have hx := ev_sound hr x
    split at h
    · rename_i cs he
      rw [he] at hx
      obtain ⟨vs, hv, hsz, hc⟩ := hx.tup_inv
      have hlt : i < vs.size := by rw [hsz]; exact (List.getElem?_eq_some_iff.1 h).1
      have hg : vs[i]? = some vs[i] := Array.getElem?_eq_getElem hlt
      refine ⟨vs[i], fun w _ => lift ?_, hc i _ _ hg h⟩
      simp only [Instr.extract, hv, hg, Sem.run_pure]
    · cases h
  · rename_i f first captured
    split at h
    · rename_i h0
      cases h
      have hf : first = #[] := by simpa using h0.1
      subst hf
      refine ⟨.func (.func f) #[] (captured.map a.eval), fun w _ => by simp [execOp, Instr.makeFunc], .clo f _ _ h0.2 (by simp) fun i v c hv hc => ?_⟩
      rw [Array.getElem?_map] at hv
      rw [List.getElem?_map] at hc
      have : captured.toList[i]? = captured[i]? := by simp
      rw [this] at hc
      cases hi : captured[i]? with
      | none => rw [hi] at hv; cases hv
      | some x => rw [hi] at hv hc; cases hv; cases hc; exact ev_sound hr x
    · cases h
  · rename_i args argTypes
    split at h
    · rename_i x t hargs htys
      have e1 : args = #[x] := by simpa using congrArg List.toArray hargs
      have e2 : argTypes = #[t] := by simpa using congrArg List.toArray htys
      subst e1; subst e2
      have hx := ev_sound hr x
      cases hl : lenS st.hp (tdAt Y t) (ev st x) with
      | none => rw [hl] at h; cases h
      | some n =>
        rw [hl] at h; cases h
        have hn := lenS_sound (P := P) (ty := type) hr hx hl
        refine ⟨_, fun w _ => ?_, .d (.i _ _)⟩
        simp only [execOp, resolve, invoke, builtin, Sem.run_bind, Sem.run_pure, Result.andThen_ok, List.map_toArray, List.map_cons, List.map_nil, hn]
    · cases h
  · rename_i args argTypes
    obtain ⟨v, h1, h2⟩ := minMaxS_sound (P := P) (ts := argTypes) (ty := type) hr h
    refine ⟨v, fun w _ => ?_, h2⟩
    have ha : (List.map a.eval args.toList).toArray = args.map a.eval := by rw [← Array.toList_map]
    rw [ha] at h1
    simp only [execOp, resolve, invoke, builtin, Sem.run_bind, Sem.run_pure, Result.andThen_ok]
    rw [show (Builtin.min_ argTypes type (args.map a.eval)).run P w = .ok v w from h1 w]; rfl
  · rename_i args argTypes
    obtain ⟨v, h1, h2⟩ := minMaxS_sound (P := P) (ts := argTypes) (ty := type) hr h
    refine ⟨v, fun w _ => ?_, h2⟩
    have ha : (List.map a.eval args.toList).toArray = args.map a.eval := by rw [← Array.toList_map]
    rw [ha] at h1
    simp only [execOp, resolve, invoke, builtin, Sem.run_bind, Sem.run_pure, Result.andThen_ok]
    rw [show (Builtin.max_ argTypes type (args.map a.eval)).run P w = .ok v w from h1 w]; rfl
  · cases h
end
end Go.U
