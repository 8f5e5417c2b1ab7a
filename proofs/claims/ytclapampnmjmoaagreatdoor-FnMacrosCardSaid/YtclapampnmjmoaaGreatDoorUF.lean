/- A part of the proof. No condition. -/
import Derived.Test.YtclapampnmjmoaaGreatDoorUE
import Derived.Laws.Strings2
set_option linter.unusedVariables false
set_option linter.unusedSimpArgs false
set_option linter.unusedSectionVars false
namespace Go.U
open Go
section
variable {P : Program} [Gl P] {Y : TT P} {X : Ctx P} {st : St} {a : Act} {w : World} {β : Nat → Option BA} {S : Nat → Prop}
def IsBnd (dflt : Nat) (o : Option Value) (n : Nat) : Prop := (o = none ∧ n = dflt) ∨ ∃ k i, o = some (.int k i) ∧ 0 ≤ i ∧ n = i.toNat
theorem bnd_inv (h : Rel X st a.tmps w β S) {x : Option Operand} {dflt n : Nat} (hb : bnd dflt (x.map (ev st)) = some n) : IsBnd dflt (x.map a.eval) n := by
  cases x with
  | none => simp [bnd] at hb; exact .inl ⟨rfl, hb.symm⟩
  | some o =>
    have hs := ev_sound h o
    simp only [Option.map_some] at hb ⊢
    revert hb hs
    generalize ev st o = p
    intro hb hs
    unfold bnd at hb
    split at hb
    · simp at *
    · rename_i k i hp
      simp only [Option.some.injEq] at hp
      subst hp
      have := hs.inv_i
      split at hb
      · rename_i h0
        exact .inr ⟨k, i, by rw [this], h0, (Option.some.inj hb).symm⟩
      · cases hb
    · cases hb
theorem run_bounds (isS : Bool) (len cap : Nat) {lo hi : Option Value} {l h : Nat} (hl : IsBnd 0 lo l) (hh : IsBnd len hi h) (h1 : l ≤ h) (h2 : h ≤ cap) :
    (Instr.sliceBounds isS len cap lo hi none).run P w = .ok (l, h, cap) w := by
  rcases hl with ⟨rfl, rfl⟩ | ⟨k, i, rfl, hi0, rfl⟩ <;> rcases hh with ⟨rfl, rfl⟩ | ⟨k', i', rfl, hi0', rfl⟩
  · simp [Instr.sliceBounds]
  · have : i' ≤ (cap : Int) := by omega
    simp [Instr.sliceBounds, run_sliceBound, hi0', this]
  · have : i ≤ (h : Int) := by omega
    simp [Instr.sliceBounds, run_sliceBound, hi0, this]
  · have h3 : i' ≤ (cap : Int) := by omega
    have h4 : i ≤ ((i'.toNat : Nat) : Int) := by omega
    have h5 := run_sliceBound (P := P) w k i i'.toNat .sliceB hi0 h4
    simp [Instr.sliceBounds, run_sliceBound, hi0', h3, h5]
theorem run_bounds3 (isS : Bool) (len cap : Nat) {lo hi : Option Value} {mx : Value} (hl : IsBnd 0 lo 0) (hh : IsBnd 1 hi 0) (hm : IsBnd 0 (some mx) 0) :
    (Instr.sliceBounds isS len cap lo hi (some mx)).run P w = .ok (0, 0, 0) w := by
  rcases hm with ⟨h, _⟩ | ⟨k2, i2, h2, hi2, e2⟩
  · cases h
  · cases h2
    have e2' : i2 = 0 := by omega
    subst e2'
    rcases hh with ⟨_, h⟩ | ⟨k', i', rfl, hi0', e⟩
    · cases h
    · have e' : i' = 0 := by omega
      subst e'
      rcases hl with ⟨rfl, _⟩ | ⟨k, i, rfl, hi0, e⟩
      · simp [Instr.sliceBounds, run_sliceBound]
      · have e' : i = 0 := by omega
        subst e'
        simp [Instr.sliceBounds, run_sliceBound]
theorem run_sliceAt_sl {t e : TypeId} {x : Value} {lo hi mx : Option Value} (h : P.underlying t = some (.slice e)) :
    (Instr.sliceAt t x lo hi mx).run P w = (Instr.slice t x lo hi mx).run P w := by
  simp only [Instr.sliceAt, Sem.run_bind, run_underlying h, Result.andThen_ok]
theorem run_slice_sl {t e : TypeId} {A : Option Addr} {len cap : Nat} {lo hi mx : Option Value} {l h m s : Nat} (ht : P.underlying t = some (.slice e)) (hs : szOf Y e = some s)
    (hb : (Instr.sliceBounds true len cap lo hi mx).run P w = .ok (l, h, m) w) :
    (Instr.sliceAt t (.slice A len cap) lo hi mx).run P w = .ok (.slice (if m = l then A else A.map (·.add (l * s))) (h - l) (m - l)) w := by
  rw [run_sliceAt_sl ht]
  simp only [Instr.slice, Sem.run_bind, run_underlying ht, Result.andThen_ok, hb, run_sizeOf hs, Sem.run_pure]
theorem sliceS_sound {t : TypeId} {x : Operand} {lo hi mx : Option Operand} {r : SV} (hr : Rel X st a.tmps w β S)
    (h : sliceS Y st.hp t (ev st x) (lo.map (ev st)) (hi.map (ev st)) (mx.map (ev st)) = some r) :
    ∃ v, (∀ w, (Instr.sliceAt t (a.eval x) (lo.map a.eval) (hi.map a.eval) (mx.map a.eval)).run P w = .ok v w) ∧ RS w β S v r := by
  have hx := ev_sound hr x
  revert h hx
  generalize ev st x = p
  generalize a.eval x = u
  intro h hu
  unfold sliceS at h
  split at h
  · -- a text
    rename_i l ht hmx
    have hm : mx = none := by cases mx with | none => rfl | some _ => cases hmx
    subst hm
    obtain ⟨d', h1, h2⟩ := tdAt_some ht
    have := td_str h2; subst this
    obtain rfl := hu.inv_str
    split at h
    · rename_i n m hn hm
      split at h
      · rename_i hle
        cases h
        have hb := fun w => run_bounds (P := P) (w := w) false l.length l.length (bnd_inv hr hn) (bnd_inv hr hm) hle.1 hle.2
        refine ⟨_, fun w => ?_, .d (.str _)⟩
        simp only [Instr.sliceAt, Sem.run_bind, run_underlying h1, Result.andThen_ok, Instr.slice, Option.map_none, Option.isSome_none, Bool.false_eq_true, if_false]
        have hsz : (ByteArray.mk l.toArray).size = l.length := by simp [ByteArray.size]
        simp only [hsz, Sem.run_pure, Result.andThen_ok, hb, ByteArray.extract_mk]
      · cases h
    · cases h
  · -- data
    rename_i e t xs ht hmx
    have hm : mx = none := by cases mx with | none => rfl | some _ => cases hmx
    subst hm
    obtain ⟨d', h1, h2⟩ := tdAt_some ht
    have := td_sl h2; subst this
    split at h
    · rename_i n m hn hm
      split at h
      · rename_i hle
        obtain ⟨hle1, hle2, hsz⟩ := hle
        cases h
        cases hu.inv_d with
        | rov0 A c t =>
          simp at hle2
          have hn0 : n = 0 := by omega
          subst hn0; subst hle2
          have hb := fun w => run_bounds (P := P) (w := w) true 0 c (bnd_inv hr hn) (bnd_inv hr hm) (Nat.le_refl _) (Nat.zero_le _)
          exact ⟨_, fun w => run_slice_sl h1 hsz (hb w), .d (.rov0 _ _ _)⟩
        | rov b o c t xs us hS hb hne hc hcell hd =>
          have hbd := fun w => run_bounds (P := P) (w := w) true xs.length c (bnd_inv hr hn) (bnd_inv hr hm) hle1 (Nat.le_trans hle2 hc)
          refine ⟨_, fun w => run_slice_sl h1 hsz (hbd w), .d ?_⟩
          by_cases he : (xs.drop n).take (m - n) = []
          · rw [he]
            have hlen : m - n = 0 := by
              have := congrArg List.length he
              simp at this; omega
            rw [hlen]
            exact .rov0 _ _ _
          · have hlen : 0 < m - n := by
              rcases Nat.eq_zero_or_pos (m - n) with h0 | h0
              · rw [h0] at he; exact absurd rfl he
              · exact h0
            have hl2 : ((xs.drop n).take (m - n)).length = m - n := by simp; omega
            have hget : ∀ (e : Nat) el, ((xs.drop n).take (m - n))[e]? = some el → xs[n + e]? = some el := fun e el he => by
              rw [List.getElem?_take] at he
              split at he
              · rwa [List.getElem?_drop] at he
              · cases he
            have hcn : ¬ c = n := by omega
            rw [if_neg hcn]
            have := RD.rov (w := w) (S := S) b (o + n * t.size) (c - n) t ((xs.drop n).take (m - n)) (fun e j => us (n + e) j) hS hb he (by rw [hl2]; omega)
              (fun e el j x h hj => by rw [← hcell (n + e) el j x (hget e el h) hj, Nat.add_mul]; congr 2; omega) (fun e el j x h hj => hd (n + e) el j x (hget e el h) hj)
            rw [hl2] at this
            simpa [addr_add] using this
      · cases h
    · cases h
  · -- a whole row of the call's own
    rename_i e b ht hmx
    have hm : mx = none := by cases mx with | none => rfl | some _ => cases hmx
    subst hm
    obtain ⟨d', h1, h2⟩ := tdAt_some ht
    have := td_sl h2; subst this
    split at h
    · rename_i k hk
      split at h
      · rename_i n m hn hm
        split at h
        · rename_i hle
          obtain ⟨hle1, hle2, hsz⟩ := hle
          cases h
          cases hu with
          | all0 A b hbn =>
            have hl0 : k.c.len = 0 := (hr.hp b k hk).zero hbn
            have hn0 : n = 0 := by omega
            have hm0 : m = 0 := by omega
            subst hn0; subst hm0
            rw [hl0] at hm
            have hb := fun w => run_bounds (P := P) (w := w) true 0 0 (bnd_inv hr hn) (bnd_inv hr hm) (Nat.le_refl _) (Nat.zero_le _)
            exact ⟨_, fun w => run_slice_sl h1 hsz (hb w), by simpa using RS.sl0 A b 0⟩
          | all b c ba hb hc hnn =>
            have hks : k.s = ba.s ∧ ba.len = k.c.len := ⟨((hr.hp b k hk).facts hb).1.symm, ((hr.hp b k hk).facts hb).2⟩
            rw [← hks.2] at hm hle2
            have hbd := fun w => run_bounds (P := P) (w := w) true ba.len c (bnd_inv hr hn) (bnd_inv hr hm) hle1 (Nat.le_trans hle2 hc)
            refine ⟨_, fun w => run_slice_sl h1 hsz (hbd w), ?_⟩
            by_cases hcn : c = n
            · have : m = n := by omega
              subst hcn; subst this
              simp only [if_true, Nat.sub_self]
              exact .sl0 _ _ _
            · rw [if_neg hcn]
              have he : n + (c - n) = c := by omega
              have := RS.sl (w := w) (β := β) (S := S) b n (m - n) (c - n) ba hb (by omega) (by rw [he]; exact hnn)
              simpa [addr_add, hks.1] using this
        · cases h
      · cases h
    · cases h
  · -- a row of the call's own
    rename_i e b off len ht hmx
    have hm : mx = none := by cases mx with | none => rfl | some _ => cases hmx
    subst hm
    obtain ⟨d', h1, h2⟩ := tdAt_some ht
    have := td_sl h2; subst this
    split at h
    · rename_i n m k hn hm hk
      split at h
      · rename_i hle
        obtain ⟨hle1, hle2, hsz⟩ := hle
        cases h
        cases hu with
        | sl0 A b off =>
          have hn0 : n = 0 := by omega
          have hm0 : m = 0 := by omega
          subst hn0; subst hm0
          have hb := fun w => run_bounds (P := P) (w := w) true 0 0 (bnd_inv hr hn) (bnd_inv hr hm) (Nat.le_refl _) (Nat.zero_le _)
          exact ⟨_, fun w => run_slice_sl h1 hsz (hb w), by simpa using RS.sl0 A b (off + 0)⟩
        | sl b off len c ba hb hc hnn =>
          have hbd := fun w => run_bounds (P := P) (w := w) true len c (bnd_inv hr hn) (bnd_inv hr hm) hle1 (Nat.le_trans hle2 hc)
          refine ⟨_, fun w => run_slice_sl h1 hsz (hbd w), ?_⟩
          by_cases hcn : c = n
          · have : m = n := by omega
            subst hcn; subst this
            simp only [if_true, Nat.sub_self]
            exact .sl0 _ _ _
          · rw [if_neg hcn]
            have hs : k.s = ba.s := by
              exact ((hr.hp b k hk).facts hb).1.symm
            have he : off + n + (c - n) = off + c := by omega
            have := RS.sl (w := w) (β := β) (S := S) b (off + n) (m - n) (c - n) ba hb (by omega) (by rw [he]; exact hnn)
            simpa [addr_add, hs, Nat.add_mul, Nat.add_assoc] using this
      · cases h
    · cases h
  · -- an array that lies as a row
    rename_i m e b el c ht hmx
    have hm : mx = none := by cases mx with | none => rfl | some _ => cases hmx
    subst hm
    obtain ⟨d', h1, h2⟩ := tdAt_some ht
    have := td_arr h2; subst this
    split at h
    · rename_i k n m' hk hn hm
      split at h
      · rename_i hle
        obtain ⟨hle1, hle2, hsz, rfl, rfl, hml⟩ := hle
        cases h
        cases hu with
        | ptr b e c ba hb =>
          have hbd := fun w => run_bounds (P := P) (w := w) false m m (bnd_inv hr hn) (bnd_inv hr hm) hle1 hle2
          have hf := (hr.hp b k hk).facts hb
          have hnn : ba.o + m * ba.s ≤ ba.n := by
            have := (hr.hp b k hk).fits hb
            rw [hml, hf.1]; exact this
          by_cases hcn : m = n
          · have : m' = n := by omega
            subst hcn; subst this
            refine ⟨.slice (some ⟨ba.b, ba.o + 0 * ba.s + 0, none⟩) 0 0, fun w => ?_, by simpa using RS.sl0 (w := w) (β := β) (S := S) (some ⟨ba.b, ba.o + 0 * ba.s + 0, none⟩) b m'⟩
            simp [Instr.sliceAt, run_underlying h1, Instr.sureAddr, hbd w, run_sizeOf hsz]
          · have := RS.sl (w := w) (β := β) (S := S) b n (m' - n) (m - n) ba hb (by omega) (by rw [show n + (m - n) = m by omega]; exact hnn)
            refine ⟨_, fun w => ?_, this⟩
            simp [Instr.sliceAt, run_underlying h1, Instr.sureAddr, hbd w, run_sizeOf hsz, hcn, addr_add, hf.1]
      · cases h
    · cases h
  · -- nothing
    rename_i e ht hmx
    have hm : mx = none := by cases mx with | none => rfl | some _ => cases hmx
    subst hm
    obtain ⟨d', h1, h2⟩ := tdAt_some ht
    have := td_sl h2; subst this
    split at h
    · rename_i s hn hm hsz
      cases h
      cases hu.inv_d with
      | emp =>
        have hb := fun w => run_bounds (P := P) (w := w) true 0 0 (bnd_inv hr hn) (bnd_inv hr hm) (Nat.le_refl _) (Nat.zero_le _)
        exact ⟨_, fun w => run_slice_sl h1 hsz (hb w), by simpa using RS.d RD.emp⟩
    · cases h
  rotate_right 1
  · cases h
  all_goals
    rename_i ht hmx
    cases mx with
    | none => cases hmx
    | some mx =>
      simp only [Option.map_some, Option.some.injEq] at hmx
      subst hmx
      obtain ⟨d', h1, h2⟩ := tdAt_some ht
      have := td_sl h2; subst this
      split at h
      · rename_i s hn hm hmm hsz
        cases h
        have hm3 := bnd_inv (x := some mx) hr hmm
        first
          | (cases hu.inv_d with
             | rov0 A c t => exact ⟨_, fun w => run_slice_sl h1 hsz (run_bounds3 true _ _ (bnd_inv hr hn) (bnd_inv hr hm) hm3), .d (.emq _)⟩
             | rov b o c t xs us hS hb hne hc hcell hd => exact ⟨_, fun w => run_slice_sl h1 hsz (run_bounds3 true _ _ (bnd_inv hr hn) (bnd_inv hr hm) hm3), .d (.emq _)⟩)
          | (cases hu.inv_d with
             | emp => exact ⟨_, fun w => run_slice_sl h1 hsz (run_bounds3 true _ _ (bnd_inv hr hn) (bnd_inv hr hm) hm3), .d (.emq _)⟩)
          | (cases hu with
             | sl0 A b off => exact ⟨_, fun w => run_slice_sl h1 hsz (run_bounds3 true _ _ (bnd_inv hr hn) (bnd_inv hr hm) hm3), .d (.emq _)⟩
             | sl b off len c ba hb hc hnn => exact ⟨_, fun w => run_slice_sl h1 hsz (run_bounds3 true _ _ (bnd_inv hr hn) (bnd_inv hr hm) hm3), .d (.emq _)⟩)
          | (cases hu with
             | all0 A b hbn => exact ⟨_, fun w => run_slice_sl h1 hsz (run_bounds3 true _ _ (bnd_inv hr hn) (bnd_inv hr hm) hm3), .d (.emq _)⟩
             | all b c ba hb hc hnn => exact ⟨_, fun w => run_slice_sl h1 hsz (run_bounds3 true _ _ (bnd_inv hr hn) (bnd_inv hr hm) hm3), .d (.emq _)⟩)
      · cases h
end
end Go.U
