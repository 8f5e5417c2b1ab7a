/- A part of the proof. No condition. -/
import Derived.Test.YtclapampnmjmoaaGreatDoorUA
set_option linter.unusedVariables false
set_option linter.unusedSimpArgs false
set_option linter.unusedSectionVars false
namespace Go.U
open Go
def St.put (st : St) (dst : Option Nat) (sv : SV) : St := match dst with | none => st | some d => { st with fr := st.fr.set d sv }
def hset (h : Nat → Option Blk) (b : Nat) (k : Blk) : Nat → Option Blk := fun x => if x = b then some k else h x
theorem hset_same (h : Nat → Option Blk) (b : Nat) (k : Blk) : hset h b k b = some k := by simp [hset]
theorem hset_ne {h : Nat → Option Blk} {b x : Nat} {k : Blk} (hx : x ≠ b) : hset h b k x = h x := by simp [hset, hx]
section
variable {P : Program} [Gl P] {X : Ctx P} {st : St} {tmps : Array Value} {w : World} {β : Nat → Option BA} {S : Nat → Prop}
theorem Rel.put (h : Rel X st tmps w β S) (d : Nat) {v : Value} {sv : SV} (hv : RS w β S v sv) : Rel X { st with fr := st.fr.set d sv } (tmps.setIfInBounds d v) w β S := by
  refine ⟨by simp [h.size], fun t u su h1 h2 => ?_, h.hp, h.inj, h.excl, h.sbd, h.old, h.os, h.tape, h.out, h.grow, h.s0, h.s1, h.fix⟩
  simp only [List.getElem?_set] at h2
  rw [Array.getElem?_setIfInBounds] at h1
  by_cases hd : d = t
  · subst hd
    simp only [if_true] at h1 h2
    split at h1
    · split at h2
      · cases h1; cases h2; exact hv
      · cases h2
    · cases h1
  · simp only [hd, if_false] at h1 h2
    exact h.fr t u su h1 h2
theorem Good.put {a : Act} (h : Good X st a w) (dst : Option Nat) {v : Value} {sv : SV} (hv : ∀ β S, Rel X st a.tmps w β S → RS w β S v sv) : Good X (st.put dst sv) (a.put dst v) w := by
  obtain ⟨hd, β, S, hr⟩ := h
  cases dst with
  | none => exact ⟨hd, β, S, hr⟩
  | some d => exact ⟨hd, β, S, hr.put d (hv β S hr)⟩
theorem RD.drew {v : Value} {x : D} (n : Nat) (h : RD w S v x) : RD { w with drawn := n } S v x := RD.mono (w := w) (w' := { w with drawn := n }) (fun _ hk => ⟨hk, rfl⟩) (Nat.le_refl _) h
theorem RS.drew {v : Value} {x : SV} (n : Nat) (h : RS w β S v x) : RS { w with drawn := n } β S v x := RS.mono (w := w) (w' := { w with drawn := n }) (fun _ hk => ⟨hk, rfl⟩) (Nat.le_refl _) h fun _ _ => rfl
theorem HKm.to {w' : World} {β' : Nat → Option BA} {S' : Nat → Prop} {b b' : Nat} {k k' : Blk} (h : HKm w β S b k) (hk : ∀ t es, k.c = .map t es → k'.c = .map t es) (hks : k'.s = k.s) (hβ : β' b' = β b)
    (hw : ∀ ba, β b = some ba → w'.heap[ba.b]? = w.heap[ba.b]?) (hS : ∀ k, S k → S' k ∧ w'.heap[k]? = w.heap[k]?) (hs : w.heap.size ≤ w'.heap.size) : HKm w' β' S' b' k' := by
  obtain ⟨t, es, ba, ents, clock, h1, h2, h3, h4, es', h5, h6, h7⟩ := h
  refine ⟨t, es, ba, ents, clock, hk t es h1, hβ.trans h2, ⟨h3.1.trans hks.symm, h3.2⟩, (hw ba h2).trans h4, es', h5, fun i key x hx => ?_, h7⟩
  obtain ⟨e, d, g1, g2, g3, g4⟩ := h6 i key x hx
  exact ⟨e, d, g1, g2, g3, g4.mono hS hs⟩
theorem HKm.lt {b : Nat} {k : Blk} {ba : BA} (h : HKm w β S b k) (hb : β b = some ba) : ba.b < w.heap.size := by
  obtain ⟨t, es, ba', ents, clock, h1, h2, h3, h4, _⟩ := h
  rw [h2] at hb; cases hb
  exact (Array.getElem?_eq_some_iff.1 h4).1
theorem HK.drew {b : Nat} {k : Blk} (n : Nat) (h : HK w β S b k) : HK { w with drawn := n } β S b k := by
  rcases h with (h | h) | ⟨ba, arr, ty, fz, h1, h2, h3, h4, h5, h6, h7, h8, h9⟩
  · exact .inl (.inl h)
  · exact .inl (.inr (h.to (fun _ _ h => h) rfl rfl (fun _ _ => rfl) (fun _ hk => ⟨hk, rfl⟩) (Nat.le_refl _)))
  · exact .inr ⟨ba, arr, ty, fz, h1, h2, h3, h4, h5, h6, h7, h8, fun e c sv hc => let ⟨u, a1, a2, a3⟩ := h9 e c sv hc; ⟨u, a1, a2, a3.drew n⟩⟩
theorem Rel.drew (n : Nat) (h : Rel X st tmps w β S) : Rel X st tmps { w with drawn := n } β S :=
  ⟨h.size, fun t v sv h1 h2 => (h.fr t v sv h1 h2).drew n, fun b k hb => (h.hp b k hb).drew n, h.inj, h.excl, h.sbd, h.old, h.os, h.tape, h.out, h.grow, h.s0, h.s1, h.fix⟩
theorem Good.drew {a : Act} (n : Nat) (h : Good X st a w) : Good X st a { w with drawn := n } :=
  let ⟨hd, β, S, hr⟩ := h; ⟨hd, β, S, hr.drew n⟩
theorem HK.lt {b : Nat} {k : Blk} {ba : BA} (h : HK w β S b k) (hb : β b = some ba) : ba.b < w.heap.size := by
  rcases h with (h | h) | ⟨ba', arr, ty, fz, h1, _, _, h4, _⟩
  · rw [h.2] at hb; cases hb
  · exact h.lt hb
  · rw [h1] at hb; cases hb
    exact (Array.getElem?_eq_some_iff.1 h4).1
theorem Rel.upd (h : Rel X st tmps w β S) {w' : World} (b : Nat) (k' : Blk) (β' : Nat → Option BA)
    (hos : w'.os = w.os) (htape : w'.tape = w.tape) (hout : w'.output = w.output) (hs : w.heap.size ≤ w'.heap.size)
    (hother : ∀ j, j < w.heap.size → (∀ ba k, st.hp b = some k → β b = some ba → j ≠ ba.b) → w'.heap[j]? = w.heap[j]?)
    (hβ : ∀ b', b' ≠ b → β' b' = β b')
    (hk : HK w' β' S b k')
    (hnew : ∀ ba', β' b = some ba' → (∃ ba k, st.hp b = some k ∧ β b = some ba ∧ ba'.b = ba.b) ∨ w.heap.size ≤ ba'.b)
    (hfix : b < X.n0 → k'.mv = false → β' b = X.β0 b) :
    Rel X { fr := st.fr.map (SV.kill b), hp := hset (st.kill b).hp b k' } tmps w' β' S := by
  have hS : ∀ k, S k → S k ∧ w'.heap[k]? = w.heap[k]? := fun k hk => ⟨hk, hother k (h.sbd k hk) fun ba kk hb hba e => (h.excl b kk ba hb hba).1 (e ▸ hk)⟩
  have hne : ∀ x k ba, x ≠ b → st.hp x = some k → β x = some ba → ∀ ba' kk, st.hp b = some kk → β b = some ba' → ba.b ≠ ba'.b := fun x k ba hx hk hba ba' kk hb hba' e => hx (h.inj x b ba ba' k kk hk hb hba hba' e)
  have hp' : ∀ x k, x ≠ b → hset (st.kill b).hp b k' x = some k → ∃ k0, st.hp x = some k0 ∧ k = k0.kill b := by
    intro x k hx hk
    rw [hset_ne hx] at hk
    simp only [St.kill] at hk
    cases hh : st.hp x with
    | none => rw [hh] at hk; cases hk
    | some k0 => rw [hh] at hk; cases hk; exact ⟨k0, rfl, rfl⟩
  refine ⟨by simp [h.size], ?_, ?_, ?_, ?_, ?_, ?_, hos.trans h.os, htape.trans h.tape, hout.trans h.out, Nat.le_trans h.grow hs, h.s0, h.s1, ?_⟩
  · intro t v sv h1 h2
    rw [List.getElem?_map] at h2
    cases hc : st.fr[t]? with
    | none => rw [hc] at h2; cases h2
    | some c => rw [hc] at h2; cases h2; exact (h.fr t v c h1 hc).kill hS hs hβ
  · intro x k hx
    replace hx : hset (st.kill b).hp b k' x = some k := hx
    by_cases hxb : x = b
    · subst hxb; rw [hset_same] at hx; cases hx; exact hk
    · obtain ⟨k0, hk0, rfl⟩ := hp' x k hxb hx
      rcases h.hp x k0 hk0 with (⟨a1, a2⟩ | hm) | ⟨ba, arr, ty, fz, h1, h2, h3, h4, h5, h6, h7, h8, h9⟩
      · exact .inl (.inl ⟨by simpa [Blk.kill, BC.len_kill] using a1, (hβ x hxb).trans a2⟩)
      · exact .inl (.inr (hm.to (fun t es e => by simp only [Blk.kill, e, BC.kill]) rfl (hβ x hxb) (fun ba h1 => hother ba.b (hm.lt h1) (fun ba' kk hb hba' => hne x k0 ba hxb hk0 h1 ba' kk hb hba')) hS hs))
      · refine .inr ⟨ba, arr, ty, fz, (hβ x hxb).trans h1, by simpa [Blk.kill, BC.len_kill, BC.ty_kill] using h2, h3, ?_, h5.to (by simp [Blk.kill, BC.ty_kill]) (by simp [Blk.kill, BC.len_kill]) rfl rfl, h6, by simpa [Blk.kill, BC.len_kill] using h7, by simpa [Blk.kill, BC.lens_kill] using h8, ?_⟩
        · rw [hother ba.b (Array.getElem?_eq_some_iff.1 h4).1 (fun ba' kk hb hba' => hne x k0 ba hxb hk0 h1 ba' kk hb hba')]; exact h4
        · intro e c sv hc
          simp only [Blk.kill, BC.cell_kill] at hc
          cases hcc : k0.c.cell? e c with
          | none => rw [hcc] at hc; cases hc
          | some c0 =>
            rw [hcc] at hc; cases hc
            obtain ⟨u, a1, a2, a3⟩ := h9 e c c0 hcc
            exact ⟨u, a1, a2, a3.kill hS hs hβ⟩
  · intro x x' ba ba' k k2 hx hx' hba hba' e
    by_cases hxb : x = b
    · by_cases hxb' : x' = b
      · rw [hxb, hxb']
      · exfalso
        subst hxb
        obtain ⟨k0, hk0, _⟩ := hp' x' k2 hxb' hx'
        rw [hβ x' hxb'] at hba'
        rcases hnew ba hba with ⟨ba0, kk, c1, c2, c3⟩ | hge
        · exact hne x' k0 ba' hxb' hk0 hba' ba0 kk c1 c2 (by rw [← e, c3])
        · have := HK.lt (h.hp x' k0 hk0) hba'; omega
    · obtain ⟨k0, hk0, _⟩ := hp' x k hxb hx
      rw [hβ x hxb] at hba
      by_cases hxb' : x' = b
      · exfalso
        subst hxb'
        rcases hnew ba' hba' with ⟨ba0, kk, c1, c2, c3⟩ | hge
        · exact hne x k0 ba hxb hk0 hba ba0 kk c1 c2 (by rw [e, c3])
        · have := HK.lt (h.hp x k0 hk0) hba; omega
      · obtain ⟨k1, hk1, _⟩ := hp' x' k2 hxb' hx'
        rw [hβ x' hxb'] at hba'
        exact h.inj x x' ba ba' k0 k1 hk0 hk1 hba hba' e
  · intro x k ba hx hba
    by_cases hxb : x = b
    · subst hxb
      rcases hnew ba hba with ⟨ba0, kk, c1, c2, c3⟩ | hge
      · rw [c3]; exact h.excl x kk ba0 c1 c2
      · exact ⟨fun hSb => by have := h.sbd _ hSb; omega, .inl (Nat.le_trans h.grow hge)⟩
    · obtain ⟨k0, hk0, _⟩ := hp' x k hxb hx
      rw [hβ x hxb] at hba
      exact h.excl x k0 ba hk0 hba
  · intro k hk; exact Nat.lt_of_lt_of_le (h.sbd k hk) hs
  · intro k hk ho
    refine (hother k (Nat.lt_of_lt_of_le hk h.grow) fun ba kk hb hba e => ?_).trans (h.old k hk ho)
    rcases (h.excl b kk ba hb hba).2 with hge | hown
    · omega
    · exact ho (e ▸ hown)
  · intro x k hx hk hmv
    replace hk : hset (st.kill b).hp b k' x = some k := hk
    by_cases hxb : x = b
    · subst hxb; rw [hset_same] at hk; cases hk; exact hfix hx hmv
    · obtain ⟨k0, hk0, rfl⟩ := hp' x k hxb hk
      exact (hβ x hxb).trans (h.fix x k0 hx hk0 hmv)
theorem RD.rov_inv {v : Value} {t : Ty} {xs : List t.den} (h : RD w S v (.rov t xs)) : (∃ A c, v = .slice A 0 c ∧ xs = []) ∨ ∃ (b o c : Nat) (us : Nat → Nat → Value), v = .slice (some ⟨b, o, none⟩) xs.length c ∧ S b ∧ b < w.heap.size ∧ xs ≠ [] ∧ xs.length ≤ c ∧
    (∀ (e : Nat) (el : t.den) (j : Nat) (x : D), xs[e]? = some el → (t.enc el)[j]? = some x → w.cell? ⟨b, o + e * t.size + j, none⟩ = some (us e j)) ∧ ∀ (e : Nat) (el : t.den) (j : Nat) (x : D), xs[e]? = some el → (t.enc el)[j]? = some x → RD w S (us e j) x := by
  cases h with
  | rov0 A c t => exact .inl ⟨A, c, rfl, rfl⟩
  | rov b o c t xs us hS hb hne hc hcell hr => exact .inr ⟨b, o, c, us, rfl, hS, hb, hne, hc, hcell, hr⟩
theorem HK.facts {b : Nat} {k : Blk} (h : HK w β S b k) {ba : BA} (hb : β b = some ba) : ba.s = k.s ∧ ba.len = k.c.len := by
  rcases h with (⟨_, hno⟩ | hm) | ⟨ba', arr, ty, fz, g1, g2, _⟩
  · rw [hb] at hno; cases hno
  · obtain ⟨t, es, ba', ents, clock, h1, h2, h3, _⟩ := hm
    rw [hb] at h2; cases h2
    exact ⟨h3.1, by rw [h1]; exact h3.2.1⟩
  · rw [hb] at g1; cases g1; exact ⟨g2.1, g2.2.1⟩
theorem HK.zero {b : Nat} {k : Blk} (h : HK w β S b k) (hb : β b = none) : k.c.len = 0 := by
  rcases h with (⟨h0, _⟩ | hm) | ⟨ba', arr, ty, fz, g1, g2, _⟩
  · exact h0
  · obtain ⟨t, es, ba', ents, clock, h1, h2, h3, _⟩ := hm
    rw [hb] at h2; cases h2
  · rw [hb] at g1; cases g1
theorem HK.fits {b : Nat} {k : Blk} (h : HK w β S b k) {ba : BA} (hb : β b = some ba) : ba.o + k.c.len * k.s ≤ ba.n := by
  rcases h with (⟨_, hno⟩ | hm) | ⟨ba', arr, ty, fz, g1, g2, g3, g4, g5, g6, g7, _⟩
  · rw [hb] at hno; cases hno
  · obtain ⟨t, es, ba', ents, clock, h1, h2, h3, _⟩ := hm
    rw [hb] at h2; cases h2
    rw [h1, ← h3.1]; simpa [BC.len] using h3.2.2
  · rw [hb] at g1; cases g1; exact g7
theorem Rel.sto (h : Rel X st tmps w β S) {w' : World} (b : Nat) (k k' : Blk) (hb : st.hp b = some k) (ba : BA) (hba : β b = some ba)
    (hos : w'.os = w.os) (htape : w'.tape = w.tape) (hout : w'.output = w.output) (hs : w.heap.size ≤ w'.heap.size)
    (hother : ∀ j, j < w.heap.size → j ≠ ba.b → w'.heap[j]? = w.heap[j]?)
    (hk : HK w' β S b k') (hmv : k'.mv = k.mv) :
    Rel X { st with hp := hset st.hp b k' } tmps w' β S := by
  have hS : ∀ k, S k → S k ∧ w'.heap[k]? = w.heap[k]? := fun k1 hk1 => ⟨hk1, hother k1 (h.sbd k1 hk1) fun e => (h.excl b k ba hb hba).1 (e ▸ hk1)⟩
  have hp' : ∀ x k1, hset st.hp b k' x = some k1 → ∃ k0, st.hp x = some k0 ∧ k1.mv = k0.mv := by
    intro x k1 hx
    by_cases hxb : x = b
    · subst hxb; rw [hset_same] at hx; cases hx; exact ⟨k, hb, hmv⟩
    · rw [hset_ne hxb] at hx; exact ⟨k1, hx, rfl⟩
  refine ⟨h.size, fun t v sv h1 h2 => (h.fr t v sv h1 h2).mono hS hs fun _ _ => rfl, ?_, ?_, ?_, ?_, ?_, hos.trans h.os, htape.trans h.tape, hout.trans h.out, Nat.le_trans h.grow hs, h.s0, h.s1, ?_⟩
  · intro x k1 hx
    replace hx : hset st.hp b k' x = some k1 := hx
    by_cases hxb : x = b
    · subst hxb; rw [hset_same] at hx; cases hx; exact hk
    · rw [hset_ne hxb] at hx
      rcases h.hp x k1 hx with (a1 | hm) | ⟨ba1, arr, ty, fz, h1, h2, h3, h4, h5, h6, h7, h8, h9⟩
      · exact .inl (.inl a1)
      · exact .inl (.inr (hm.to (fun _ _ e => e) rfl rfl (fun ba1 h1 => hother ba1.b (hm.lt h1) fun e => hxb (h.inj x b ba1 ba k1 k hx hb h1 hba e)) hS hs))
      · refine .inr ⟨ba1, arr, ty, fz, h1, h2, h3, ?_, h5, h6, h7, h8, fun e c sv hc => ?_⟩
        · rw [hother ba1.b (Array.getElem?_eq_some_iff.1 h4).1 fun e => hxb (h.inj x b ba1 ba k1 k hx hb h1 hba e)]; exact h4
        · obtain ⟨u, b1, b2, b3⟩ := h9 e c sv hc
          exact ⟨u, b1, b2, b3.mono hS hs fun _ _ => rfl⟩
  · intro x x' ba1 ba2 k1 k2 hx hx' hb1 hb2 e
    obtain ⟨k3, h3, _⟩ := hp' x k1 hx
    obtain ⟨k4, h4, _⟩ := hp' x' k2 hx'
    exact h.inj x x' ba1 ba2 k3 k4 h3 h4 hb1 hb2 e
  · intro x k1 ba1 hx hb1
    obtain ⟨k3, h3, _⟩ := hp' x k1 hx
    exact h.excl x k3 ba1 h3 hb1
  · intro k1 hk1; exact Nat.lt_of_lt_of_le (h.sbd k1 hk1) hs
  · intro k1 hk1 ho
    refine (hother k1 (Nat.lt_of_lt_of_le hk1 h.grow) fun e => ?_).trans (h.old k1 hk1 ho)
    rcases (h.excl b k ba hb hba).2 with hge | hown
    · omega
    · exact ho (e ▸ hown)
  · intro x k1 hx hk1 hm
    obtain ⟨k3, h3, e3⟩ := hp' x k1 hk1
    exact h.fix x k3 hx h3 (e3 ▸ hm)
theorem Rel.new (h : Rel X st tmps w β S) (b : Nat) (k' : Blk) (o : Obj) (ba : BA) (hba : ba.b = w.heap.size) (hn : X.n0 ≤ b ∨ k'.mv = true)
    (hk : HK (w.alloc o) (fun x => if x = b then some ba else β x) S b k') :
    Rel X { fr := st.fr.map (SV.kill b), hp := hset (st.kill b).hp b k' } tmps (w.alloc o) (fun x => if x = b then some ba else β x) S := by
  refine h.upd b k' _ rfl rfl rfl (by simp) (fun j hj _ => ?_) (fun b' hb' => by simp [hb']) hk (fun ba' he => ?_) (fun hlt hmv => by rcases hn with hn | hn; omega; rw [hn] at hmv; cases hmv)
  · show (w.heap.push o)[j]? = _
    rw [Array.getElem?_push, if_neg (by omega)]
  · simp at he; subst he; exact .inr (by omega)
end
end Go.U
