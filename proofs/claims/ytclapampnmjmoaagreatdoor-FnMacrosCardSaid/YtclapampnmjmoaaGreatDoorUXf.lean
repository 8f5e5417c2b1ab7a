/- A part of the proof. No condition. -/
import Derived.Test.YtclapampnmjmoaaGreatDoorUXe
set_option linter.unusedVariables false
set_option linter.unusedSimpArgs false
set_option linter.unusedSectionVars false
namespace Go.U
open Go
def tysHp : List (Nat × BSh) → List Ty
  | [] => []
  | x :: l => x.2.tys ++ tysHp l
def StSh.ts (s : StSh) : List Ty := tysShs s.fr ++ tysHp s.hp
def grabHp : List (Nat × BSh) → List (Nat × Blk) → Option (List D)
  | [], _ => some []
  | (b, x) :: l, hp => match hpL hp b with
    | some k => apO (grabB x k) (grabHp l hp)
    | none => none
def fillHp {α : Type} : List (Nat × BSh) → List D → (List (Nat × Blk) → List D → α) → α
  | [], ds, k => k [] ds
  | (b, x) :: l, ds, k => fillB x ds fun v ds => fillHp l ds fun vs ds => k ((b, v) :: vs) ds
def grabSt {ρ : Type} (sh : StSh) (s : XSt) (k : tup sh.ts → Option ρ) : Option ρ := match grabShs sh.fr s.fr, grabHp sh.hp s.hp with
  | some a, some b => unDs _ (a ++ b) k
  | _, _ => none
def fillSt {α : Type} (sh : StSh) (a : tup sh.ts) (k : XSt → α) : α := fillShs sh.fr (toDs _ a) fun fr ds => fillHp sh.hp ds fun hp _ => k ⟨fr, hp⟩
theorem fillHp_nat {α β : Type} (f : α → β) : ∀ (xs : List (Nat × BSh)) (ds : List D) (k : List (Nat × Blk) → List D → α), f (fillHp xs ds k) = fillHp xs ds fun v ds => f (k v ds)
  | [], _, _ => rfl
  | (b, x) :: xs, ds, k => by
    simp only [fillHp]
    rw [fillB_nat f]
    congr 1
    funext v ds
    exact fillHp_nat f xs ds _
theorem fillSt_eq {α : Type} (sh : StSh) (a : tup sh.ts) (q : XSt → α) : fillSt sh a q = q (fillSt sh a id) := by
  unfold fillSt
  rw [fillShs_nat q]
  congr 1
  funext fr ds
  rw [fillHp_nat q]
  rfl
theorem fillHp_grab {α : Type} : ∀ {xs : List (Nat × BSh)} {hp : List (Nat × Blk)} {ds : List D}, grabHp xs hp = some ds → ∀ {es : List D}, DSubs ds es → ∀ (r : List D) (k : List (Nat × Blk) → List D → α), ∃ vs', fillHp xs (es ++ r) k = k vs' r ∧ ∀ b k', hpL vs' b = some k' → ∃ k, hpL hp b = some k ∧ BSub k k'
  | [], hp, ds, h, es, hs, r, k => by
    cases h
    match es, hs with
    | [], _ => exact ⟨[], rfl, fun b k' h => by cases h⟩
  | (b, x) :: xs, hp, ds, h, es, hs, r, k => by
    simp only [grabHp] at h
    split at h
    case h_2 => cases h
    rename_i kb hkb
    obtain ⟨a, c, h1, h2, rfl⟩ := apO_some h
    obtain ⟨e1, e2, rfl, h3, h4⟩ := DSubs.split hs
    obtain ⟨v', g1, g2⟩ := fillB_grab h1 h3 (e2 ++ r) fun v ds => fillHp xs ds fun vs ds => k ((b, v) :: vs) ds
    obtain ⟨vs', g3, g4⟩ := fillHp_grab h2 h4 r fun vs ds => k ((b, v') :: vs) ds
    refine ⟨(b, v') :: vs', by rw [List.append_assoc]; exact g1.trans g3, fun y k' hy => ?_⟩
    simp only [hpL] at hy
    split at hy
    · rename_i e; subst e; cases hy; exact ⟨kb, hkb, g2⟩
    · exact g4 y k' hy
theorem grabSt_some {ρ : Type} {r : ρ} {sh : StSh} {s : XSt} {k : tup sh.ts → Option ρ} (n0 : Nat) (h : grabSt sh s k = some r) : ∃ a, k a = some r ∧ Weak n0 s.st (fillSt sh a id).st := by
  unfold grabSt at h
  split at h
  · rename_i x y hx hy
    obtain ⟨a, h1, h2⟩ := unDs_spec _ _ _ h
    refine ⟨a, h1, ?_⟩
    obtain ⟨e1, e2, he, h3, h4⟩ := DSubs.split h2
    obtain ⟨fr', g1, g2⟩ := fillShs_grab hx h3 e2 fun fr ds => fillHp sh.hp ds fun hp _ => (⟨fr, hp⟩ : XSt)
    obtain ⟨hp', g3, g4⟩ := fillHp_grab hy h4 [] fun hp _ => (⟨fr', hp⟩ : XSt)
    rw [List.append_nil] at g3
    have : fillSt sh a id = ⟨fr', hp'⟩ := by
      unfold fillSt
      rw [he]
      exact g1.trans g3
    rw [this]
    exact Weak.sub g2 g4
  · cases h
def exT : List (Nat × StSh) → Type
  | [] => Empty
  | [e] => tup e.2.ts
  | e :: f :: l => tup e.2.ts ⊕ exT (f :: l)
def inE {σ : Type} : (es : List (Nat × StSh)) → Nat → XSt → (exT es → Option σ) → Option σ
  | [], _, _, _ => none
  | [e], id, s, k => if id = e.1 then grabSt e.2 s k else none
  | e :: f :: l, id, s, k => if id = e.1 then grabSt e.2 s fun a => k (.inl a) else inE (f :: l) id s fun x => k (.inr x)
def outE {ρ : Type} (C : Cmb) : (es : List (Nat × StSh)) → exT es → (Nat → XSt → Option ρ) → Option ρ
  | [], x, _ => nomatch x
  | [e], a, ke => fillSt e.2 a fun s => ke e.1 s
  | e :: f :: l, x, ke => C.cs x (fun a => fillSt e.2 a fun s => ke e.1 s) fun y => outE C (f :: l) y ke
def outT (R : Type) : Bool → List (Nat × StSh) → Type
  | true, [] => R
  | true, e :: l => R ⊕ exT (e :: l)
  | false, es => exT es
def injR {R : Type} : (rt : Bool) → (es : List (Nat × StSh)) → R → Option (outT R rt es)
  | true, [], r => some r
  | true, _ :: _, r => some (.inl r)
  | false, _, _ => none
def injE {R : Type} : (rt : Bool) → (es : List (Nat × StSh)) → exT es → outT R rt es
  | true, [], x => nomatch x
  | true, _ :: _, x => .inr x
  | false, _, x => x
def caseO {R ρ : Type} (C : Cmb) : (rt : Bool) → (es : List (Nat × StSh)) → outT R rt es → (R → Option ρ) → (exT es → Option ρ) → Option ρ
  | true, [], o, kR, _ => kR o
  | true, _ :: _, o, kR, kE => C.cs o kR kE
  | false, _, o, _, kE => kE o
section
variable {R ρ σ : Type} {r : ρ}
theorem inE_some {x : σ} : ∀ {es : List (Nat × StSh)} {id : Nat} {s : XSt} {k : exT es → Option σ} (n0 : Nat), inE es id s k = some x →
    ∃ o, k o = some x ∧ ∃ s', Weak n0 s.st s'.st ∧ ∀ (ke : Nat → XSt → Option ρ), outE std es o ke = ke id s'
  | [], _, _, _, _, h => by cases h
  | [e], id, s, k, n0, h => by
    simp only [inE] at h
    split at h
    · rename_i he; subst he
      obtain ⟨a, h1, h2⟩ := grabSt_some n0 h
      exact ⟨a, h1, _, h2, fun ke => fillSt_eq _ _ _⟩
    · cases h
  | e :: f :: l, id, s, k, n0, h => by
    simp only [inE] at h
    split at h
    · rename_i he; subst he
      obtain ⟨a, h1, h2⟩ := grabSt_some n0 h
      exact ⟨.inl a, h1, _, h2, fun ke => fillSt_eq _ _ _⟩
    · obtain ⟨o, h1, s', h2, h3⟩ := inE_some n0 h
      exact ⟨.inr o, h1, s', h2, h3⟩
theorem caseO_E {rt : Bool} {es : List (Nat × StSh)} (x : exT es) (kR : R → Option ρ) (kE : exT es → Option ρ) : caseO std rt es (injE rt es x) kR kE = kE x := by
  cases rt with
  | false => rfl
  | true => cases es with
    | nil => exact nomatch x
    | cons e l => rfl
theorem caseO_R {rt : Bool} {es : List (Nat × StSh)} {x : R} {o : outT R rt es} (h : injR rt es x = some o) (kR : R → Option ρ) (kE : exT es → Option ρ) : caseO std rt es o kR kE = kR x := by
  cases rt with
  | false => cases h
  | true => cases es with
    | nil => cases h; rfl
    | cons e l => cases h; rfl
end
def frzL : Lf → SV → List Nat
  | .v (.l _), .all b => [b]
  | .v (.l _), .sl b _ _ => [b]
  | _, _ => []
def frzLs : List Lf → List SV → List Nat
  | x :: xs, v :: vs => frzL x v ++ frzLs xs vs
  | _, _ => []
def frzSh : Sh → SV → List Nat
  | .l x, v => frzL x v
  | .agg xs, .agg vs => frzLs xs vs
  | _, _ => []
def frzShs : List Sh → List SV → List Nat
  | x :: xs, v :: vs => frzSh x v ++ frzShs xs vs
  | _, _ => []
def frzEs : List (List Sh) → List (List SV) → List Nat
  | x :: xs, v :: vs => frzShs x v ++ frzEs xs vs
  | _, _ => []
def frzHs (hp : Nat → Option Blk) : Nat → List BSh → List Nat
  | _, [] => []
  | j, b :: l => (match b.c, hp j with
    | .mix _ shs, some ⟨_, _, .mix _ els⟩ => frzEs shs els
    | _, _ => []) ++ frzHs hp (j + 1) l
def frzAll {ρ : Type} (n0 : Nat) : List Nat → XSt → (XSt → Option ρ) → Option ρ
  | [], s, k => k s
  | b :: l, s, k => match hpL s.hp b with
    | none => frzAll n0 l s k
    | some _ => wkK std n0 (.frz b) s fun s => frzAll n0 l s k
theorem frzAll_some {ρ : Type} {r : ρ} {n0 : Nat} : ∀ {l : List Nat} {s : XSt} {k : XSt → Option ρ}, frzAll n0 l s k = some r → ∃ s', Weak n0 s.st s'.st ∧ k s' = some r
  | [], s, k, h => ⟨s, .refl _ _, h⟩
  | b :: l, s, k, h => by
    simp only [frzAll] at h
    split at h
    · exact frzAll_some h
    · obtain ⟨s1, h1, h2⟩ := wkK_some h
      obtain ⟨s2, h3, h4⟩ := frzAll_some h2
      exact ⟨s2, h1.trans h3, h4⟩
def retK {ρ : Type} {P : Program} (Y : TT P) (n0 : Nat) (rvs : List ResultVar) (rs : List Sh) (hr : List BSh) (s : XSt) (k : tup (tysShs rs ++ tysBs hr) → Option ρ) : Option ρ :=
  match resS Y s.st rvs with
  | some vs => frzAll n0 (frzShs rs vs ++ frzHs s.st.hp 0 (hr.take n0)) s fun s => match packS Y rvs n0 s.st with
    | some (vs, ks) => match grabShs rs vs, grabBs hr ks with
      | some a, some b => unDs _ (a ++ b) k
      | _, _ => none
    | none => none
  | none => none
def fillR (rs : List Sh) (hr : List BSh) (x : tup (tysShs rs ++ tysBs hr)) : List SV × List Blk := fillShs rs (toDs _ x) fun vs ds => fillBs hr ds fun ks _ => (vs, ks)
def RetOk {P : Program} (Y : TT P) (n0 : Nat) (rvs : List ResultVar) (rs : List Sh) (hr : List BSh) (x : tup (tysShs rs ++ tysBs hr)) (st : St) : Prop :=
  ∃ st', Weak n0 st st' ∧ ∃ vs ks, packS Y rvs n0 st' = some (vs, ks) ∧ SSubs vs (fillR rs hr x).1 ∧ BSubs ks (fillR rs hr x).2
theorem retK_some {ρ : Type} {r : ρ} {P : Program} {Y : TT P} {n0 : Nat} {rvs : List ResultVar} {rs : List Sh} {hr : List BSh} {s : XSt} {k : tup (tysShs rs ++ tysBs hr) → Option ρ} (h : retK Y n0 rvs rs hr s k = some r) :
    ∃ x, k x = some r ∧ RetOk Y n0 rvs rs hr x s.st := by
  unfold retK at h
  split at h
  case h_2 => cases h
  obtain ⟨s', hw, h⟩ := frzAll_some h
  split at h
  case h_2 => cases h
  rename_i vs ks hpk
  split at h
  case h_2 => cases h
  rename_i a b ha hb
  obtain ⟨x, h1, h2⟩ := unDs_spec _ _ _ h
  refine ⟨x, h1, s'.st, hw, vs, ks, hpk, ?_⟩
  obtain ⟨e1, e2, he, h3, h4⟩ := DSubs.split h2
  obtain ⟨vs', g1, g2⟩ := fillShs_grab ha h3 e2 fun vs ds => fillBs hr ds fun ks _ => (vs, ks)
  obtain ⟨ks', g3, g4⟩ := fillBs_grab hb h4 [] fun ks _ => (vs', ks)
  rw [List.append_nil] at g3
  have : fillR rs hr x = (vs', ks') := by
    unfold fillR
    rw [he]
    exact g1.trans g3
  rw [this]
  exact ⟨g2, g4⟩
inductive An where
  | no
  | seq (a b : An)
  | seqJ (es : List (Nat × StSh)) (rt : Bool) (a b : An)
  | cond (a b : An)
  | blk (a : An)
  | reg (zs : List Nat) (ws : List (Nat × Wk))
  | loop (ws : List Wk) (hd : StSh) (es : List (Nat × StSh)) (rt : Bool) (a : An)
  deriving Inhabited
def An.fst : An → An
  | .cond a _ => a
  | .blk a => a
  | _ => .no
def An.snd : An → An
  | .cond _ b => b
  | _ => .no
def An.zs : An → List Nat
  | .reg zs _ => zs
  | _ => []
def An.ws : An → List (Nat × Wk)
  | .reg _ ws => ws
  | _ => []
def nrm : Nat := 1000000
def condK {ρ : Type} (C : Cmb) (s : XSt) (c : Operand) (f g : XSt → Option ρ) : Option ρ :=
  match c with
  | .tmp t => match s.fr.getD t .undef with
    | .d (.b x) => C.branch x (refineK s t true f) (refineK s t false g)
    | _ => none
  | c => match ev s.st c with
    | .d (.b x) => C.branch x (f s) (g s)
    | _ => none
def quietL : CTab → CTab
  | [] => []
  | p :: l => match Nat.beq p.2.hr.length p.2.hs.length with
    | true => p :: quietL l
    | false => quietL l
theorem quietL_mem : ∀ {l : CTab} {p : Nat × Ct}, p ∈ quietL l → p ∈ l
  | [], _, h => h
  | q :: l, p, h => by
    simp only [quietL] at h
    split at h
    · rw [List.mem_cons] at h ⊢
      exact h.imp id quietL_mem
    · exact List.mem_cons_of_mem _ (quietL_mem h)
theorem quietL_ok {P : Program} [Gl P] {L : CTab} (h : CTabOk P L) : CTabOk P (quietL L) := fun p hp => h p (quietL_mem hp)
def X (C : Cmb) {P : Program} (Y : TT P) (L : CTab) (K n0 : Nat) (rvs : List ResultVar) (rs : List Sh) (hr : List BSh) :
    Code → An → {ρ : Type} → XSt → (XSt → Option ρ) → (Nat → XSt → Option ρ) → (tup (tysShs rs ++ tysBs hr) → Option ρ) → Option ρ
  | .skip, _, _, s, kn, _, _ => kn s
  | .label _, _, _, s, kn, _, _ => kn s
  | .seq a b, an, _, s, kn, ke, kR => match an with
    | .seq a1 b1 => X C Y L K n0 rvs rs hr a a1 s (fun s => X C Y L K n0 rvs rs hr b b1 s kn ke kR) ke kR
    | .seqJ es rt a1 b1 => C.bind (X C Y L K n0 rvs rs hr a a1 s (fun s => inE es nrm s fun o => some (injE rt es o)) (fun id s => if id = nrm then none else inE es id s fun o => some (injE rt es o)) (fun r => injR rt es r))
        fun o => caseO C rt es o kR fun x => outE C es x fun id s => if id = nrm then X C Y L K n0 rvs rs hr b b1 s kn ke kR else ke id s
    | _ => X C Y L K n0 rvs rs hr a .no s (fun s => X C Y L K n0 rvs rs hr b .no s kn ke kR) ke kR
  | .cond c a b, an, _, s, kn, ke, kR => condK C s c (fun s => X C Y L K n0 rvs rs hr a an.fst s kn ke kR) (fun s => X C Y L K n0 rvs rs hr b an.snd s kn ke kR)
  | .block id b, an, _, s, kn, ke, kR => X C Y L K n0 rvs rs hr b an.fst s kn (fun i s => if i = id then kn s else ke i s) kR
  | .exit id, _, _, s, _, ke, _ => ke id s
  | .ret, _, _, s, _, _, kR => retK Y n0 rvs rs hr s kR
  | .loop c, an, _, s, _, ke, kR => match an with
    | .loop ws hd es rt a1 => wksK C n0 ws s fun s => grabSt hd s fun a0 =>
        C.bind (C.iter K (fun a => fillSt hd a fun s => X C Y L K n0 rvs rs hr c a1 s (fun s => grabSt hd s fun a => some (.inl a)) (fun id s => inE es id s fun o => some (.inr (injE rt es o))) (fun r => optK (injR rt es r) fun o => some (.inr o))) a0)
          fun o => caseO C rt es o kR fun x => outE C es x ke
    | _ => none
  | .region _ ops false, an, _, s, kn, _, _ => walkN C Y L n0 ops an.zs (wsAt an.ws) ops.toList 0 s kn
  | .region _ ops true, an, _, s, kn, _, _ => wksK C n0 (wsAt an.ws 0) s fun s => match backs 0 ops.toList with
    | true => walkD C Y (quietL L) ops an.zs (masks ops.toList []) (newsOf ops.toList) ops.toList 0 [] s kn
    | false => none
  | _, _, _, _, _, _, _ => none
section
variable {P : Program} [Gl P] {Y : TT P} {L : CTab} {K n0 : Nat} {rvs : List ResultVar} {rs : List Sh} {hr : List BSh} {Z : Ctx P}
theorem condK_some {ρ : Type} {r : ρ} {s : XSt} {c : Operand} {f g : XSt → Option ρ} (h : condK std s c f g = some r) : ∃ b, ev s.st c = .d (.b b) ∧ (b = true → f s = some r) ∧ (b = false → g s = some r) := by
  unfold condK at h
  split at h
  · rename_i t
    split at h
    · rename_i x hx
      rcases branch_some h with ⟨rfl, h1⟩ | ⟨rfl, h1⟩
      · unfold refineK at h1
        rw [setL_eq, refine_same hx] at h1
        exact ⟨true, hx, fun _ => h1, fun e => by cases e⟩
      · unfold refineK at h1
        rw [setL_eq, refine_same hx] at h1
        exact ⟨false, hx, (fun e => by cases e), fun _ => h1⟩
    · cases h
  · split at h
    · rename_i x hx
      rcases branch_some h with ⟨rfl, h1⟩ | ⟨rfl, h1⟩
      · exact ⟨true, hx, fun _ => h1, fun e => by cases e⟩
      · exact ⟨false, hx, (fun e => by cases e), fun _ => h1⟩
    · cases h
theorem iter_some {α β : Type} {f : α → Option (α ⊕ β)} {b : β} : ∀ (n : Nat) (a : α), iter n f a = some b → ∃ m, n = m + 1 ∧ ∃ o, f a = some o ∧ ((∃ a', o = .inl a' ∧ iter m f a' = some b) ∨ o = .inr b)
  | 0, _, h => by cases h
  | n + 1, a, h => by
    refine ⟨n, rfl, ?_⟩
    simp only [iter] at h
    split at h
    · rename_i a' e; exact ⟨_, e, .inl ⟨a', rfl, h⟩⟩
    · rename_i b' e; cases h; exact ⟨_, e, .inr rfl⟩
    · cases h
theorem X_sound (hT : CTabOk P L) (hm : P.follows .mixedOrders = true) (hx : Z.ok) (h0 : Z.n0 = n0) (hn : Z.n0 ≤ 1000) : ∀ (c : Code) (an : An) {ρ : Type} (r : ρ) (s : XSt) (kn : XSt → Option ρ) (ke : Nat → XSt → Option ρ) (kR : tup (tysShs rs ++ tysBs hr) → Option ρ)
    (Q : Exit → Act → World → Prop) (a : Act) (w : World), (∀ s a w, kn s = some r → Good Z s.st a w → Q .normal a w) → (∀ id s a w, ke id s = some r → Good Z s.st a w → Q (.exit id) a w) →
      (∀ x st a w, kR x = some r → RetOk Y n0 rvs rs hr x st → Good Z st a w → Q .ret a w) → X std Y L K n0 rvs rs hr c an s kn ke kR = some r → Good Z s.st a w → c.wp P Q a w
  | .skip, an, ρ, r, s, kn, ke, kR, Q, a, w, qn, qe, qr, h, hg => wp_skip (qn s a w h hg)
  | .label _, an, ρ, r, s, kn, ke, kR, Q, a, w, qn, qe, qr, h, hg => wp_label (qn s a w h hg)
  | .exit id, an, ρ, r, s, kn, ke, kR, Q, a, w, qn, qe, qr, h, hg => wp_exit (qe id s a w h hg)
  | .ret, an, ρ, r, s, kn, ke, kR, Q, a, w, qn, qe, qr, h, hg => by
    obtain ⟨x, h1, h2⟩ := retK_some h
    exact wp_ret (qr x s.st a w h1 h2 hg)
  | .cond c x y, an, ρ, r, s, kn, ke, kR, Q, a, w, qn, qe, qr, h, hg => by
    simp only [X] at h
    obtain ⟨b, hb, h1, h2⟩ := condK_some h
    obtain ⟨hd, β, S, hrel⟩ := hg
    have hc := ev_sound hrel c
    rw [hb] at hc
    exact wp_cond_split hc.inv_b (fun e => X_sound hT hm hx h0 hn x _ r s kn ke kR Q a w qn qe qr (h1 e) ⟨hd, β, S, hrel⟩) (fun e => X_sound hT hm hx h0 hn y _ r s kn ke kR Q a w qn qe qr (h2 e) ⟨hd, β, S, hrel⟩)
  | .block id c, an, ρ, r, s, kn, ke, kR, Q, a, w, qn, qe, qr, h, hg => by
    simp only [X] at h
    refine wp_block (X_sound hT hm hx h0 hn c _ r s _ _ kR _ a w (fun s a w hk hg => qn s a w hk hg) (fun i s a w hk hg => ?_) (fun x st a w hk hr hg => qr x st a w hk hr hg) h hg)
    by_cases hi : i = id
    · rw [if_pos hi] at hk; simp only [Exit.inBlock, if_pos hi]; exact qn s a w hk hg
    · rw [if_neg hi] at hk; simp only [Exit.inBlock, if_neg hi]; exact qe i s a w hk hg
  | .seq c d, an, ρ, r, s, kn, ke, kR, Q, a, w, qn, qe, qr, h, hg => by
    have plain : ∀ a1 b1, X std Y L K n0 rvs rs hr c a1 s (fun s => X std Y L K n0 rvs rs hr d b1 s kn ke kR) ke kR = some r → (Code.seq c d).wp P Q a w := fun a1 b1 h =>
      wp_seq (X_sound hT hm hx h0 hn c a1 r s _ ke kR _ a w (fun s a w hk hg => X_sound hT hm hx h0 hn d b1 r s kn ke kR Q a w qn qe qr hk hg) (fun id s a w hk hg => qe id s a w hk hg) (fun x st a w hk hr hg => qr x st a w hk hr hg) h hg)
    simp only [X] at h
    split at h
    · exact plain _ _ h
    · rename_i es rt a1 b1
      obtain ⟨o, h1, h2⟩ := bindO_some h
      refine wp_seq (X_sound hT hm hx h0 hn c a1 o s _ _ _ _ a w (fun s a w hk hg => ?_) (fun id s a w hk hg => ?_) (fun x st a w hk hr hg => ?_) h1 hg)
      · obtain ⟨x, g1, s', g2, g3⟩ := inE_some (ρ := ρ) n0 hk
        cases g1
        rw [caseO_E, g3, if_pos rfl] at h2
        exact X_sound hT hm hx h0 hn d b1 r s' kn ke kR Q a w qn qe qr h2 (g2 _ _ Z a w h0 hx hg)
      · split at hk
        · cases hk
        rename_i hid
        obtain ⟨x, g1, s', g2, g3⟩ := inE_some (ρ := ρ) n0 hk
        cases g1
        rw [caseO_E, g3, if_neg hid] at h2
        exact qe id s' a w h2 (g2 _ _ Z a w h0 hx hg)
      · rw [caseO_R hk] at h2
        exact qr x st a w h2 hr hg
    · exact plain _ _ h
  | .loop c, an, ρ, r, s, kn, ke, kR, Q, a, w, qn, qe, qr, h, hg => by
    simp only [X] at h
    split at h
    case h_2 => cases h
    rename_i ws hd es rt a1
    obtain ⟨s1, hw1, h⟩ := wksK_some h
    obtain ⟨a0, h1, hw2⟩ := grabSt_some n0 h
    obtain ⟨o, h2, h3⟩ := bindO_some h1
    have hg1 := hw2 _ _ Z a w h0 hx (hw1 _ _ Z a w h0 hx hg)
    clear h h1 hw1 hw2 hg
    refine wp_loop_rounds K ?_
    have key : ∀ (n : Nat) (a0 : tup hd.ts) (a : Act) (w : World), iter n (fun a => fillSt hd a fun s => X std Y L K n0 rvs rs hr c a1 s (fun s => grabSt hd s fun a => some (.inl a)) (fun id s => inE es id s fun o => some (.inr (injE rt es o))) (fun r => optK (injR rt es r) fun o => some (.inr o))) a0 = some o →
        Good Z (fillSt hd a0 id).st a w → Code.rounds P c Q n a w := by
      intro n
      induction n with
      | zero => intro a0 a w h _; cases h
      | succ n ih =>
        intro a0 a w h hg
        obtain ⟨m, hm', o1, g1, g2⟩ := iter_some _ _ h
        cases hm'
        rw [fillSt_eq] at g1
        refine X_sound hT hm hx h0 hn c a1 o1 _ _ _ _ _ a w (fun s a w hk hg => ?_) (fun id s a w hk hg => ?_) (fun x st a w hk hr hg => ?_) g1 hg
        · obtain ⟨a', q1, q2⟩ := grabSt_some n0 hk
          cases q1
          rcases g2 with ⟨a'', e, g2⟩ | e
          · cases e
            exact ih _ a w g2 (q2 _ _ Z a w h0 hx hg)
          · cases e
        · obtain ⟨x, q1, s', q2, q3⟩ := inE_some (ρ := ρ) n0 hk
          cases q1
          rcases g2 with ⟨a'', e, g2⟩ | e
          · cases e
          · cases e
            rw [caseO_E, q3] at h3
            exact qe id s' a w h3 (q2 _ _ Z a w h0 hx hg)
        · obtain ⟨o2, q1, q2⟩ := optK_some hk
          cases q2
          rcases g2 with ⟨a'', e, g2⟩ | e
          · cases e
          · cases e
            rw [caseO_R q1] at h3
            exact qr x st a w h3 hr hg
    exact key K a0 a w h2 hg1
  | .region _ ops false, an, ρ, r, s, kn, ke, kR, Q, a, w, qn, qe, qr, h, hg => by
    refine wp_region ?_
    have := walkN_sound (Q := Q) hT hx h0 hn qn ops.toList 0 s a w (fun j _ => by simp) hg h
    rw [List.range_eq_range']
    simpa using this
  | .region _ ops true, an, ρ, r, s, kn, ke, kR, Q, a, w, qn, qe, qr, h, hg => by
    simp only [X] at h
    obtain ⟨s1, hw1, h⟩ := wksK_some h
    split at h
    case h_2 => cases h
    rename_i hb
    exact wp_region_any hm (walkD_sound (quietL_ok hT) hn hb qn ((hw1 _ _ Z a w h0 hx hg).drew _) h)
  | .rangeFunc _ _ _ _, _, _, _, _, _, _, _, _, _, _, _, _, _, h, _ => by cases h
  | .scope _, _, _, _, _, _, _, _, _, _, _, _, _, _, h, _ => by cases h
  | .goto _, _, _, _, _, _, _, _, _, _, _, _, _, _, h, _ => by cases h
  | .refuse _, _, _, _, _, _, _, _, _, _, _, _, _, _, h, _ => by cases h
end
def enumB : Nat → List Blk → List (Nat × Blk)
  | _, [] => []
  | i, k :: ks => (i, k) :: enumB (i + 1) ks
theorem enumB_get : ∀ (ks : List Blk) (i b : Nat), hpL (enumB i ks) b = if i ≤ b then ks[b - i]? else none
  | [], i, b => by simp [enumB, hpL]
  | k :: ks, i, b => by
    simp only [enumB, hpL]
    by_cases h : b = i
    · subst h; simp
    · rw [if_neg h, enumB_get ks (i + 1) b]
      by_cases h1 : i + 1 ≤ b
      · rw [if_pos h1, if_pos (by omega), show b - i = (b - (i + 1)) + 1 by omega, List.getElem?_cons_succ]
      · rw [if_neg h1, if_neg (by omega)]
def startK {α : Type} (c : Ct) (nt : Nat) (x : tup (tysShs c.ps ++ tysBs c.hs)) (k : XSt → α) : α :=
  fillShs c.ps (toDs _ x) fun vs ds => fillBs c.hs ds fun ks _ => k ⟨vs ++ List.replicate (nt - vs.length) .undef, enumB 0 ks⟩
def walk (C : Cmb) {P : Program} (Y : TT P) (L : CTab) (K : Nat) (c : Ct) (rvs : List ResultVar) (nt : Nat) (code : Code) (an : An) (x : tup (tysShs c.ps ++ tysBs c.hs)) : Option (tup (tysShs c.rs ++ tysBs c.hr)) :=
  startK c nt x fun s => X C Y L K c.hs.length rvs c.rs c.hr code an s (fun s => retK Y c.hs.length rvs c.rs c.hr s some) (fun _ _ => none) some
theorem Post.sub {w w' : World} {β β' : Nat → Option BA} {S S' : Nat → Prop} {hs ks ks' : List Blk} {v : Value} {vs vs' : List SV} (h : Post w w' β β' S S' hs ks v vs) (h1 : SSubs vs vs') (h2 : BSubs ks ks') : Post w w' β β' S S' hs ks' v vs' := by
  refine ⟨Sub.ret h1 _ _ _ _ h.ret, by rw [h2.len]; exact h.len, fun j k hk => ?_, fun j j' ba ba' hj hj' => h.inj j j' ba ba' (by rw [← h2.len]; exact hj) (by rw [← h2.len]; exact hj'), fun j ba hj => h.excl j ba (by rw [← h2.len]; exact hj), fun j ba hj => h.loc j ba (by rw [← h2.len]; exact hj), fun j k hj hk hm => ?_, h.sS, h.s1, h.os, h.tape, h.out, h.size, h.frame⟩
  · obtain ⟨k0, hk0, hsub⟩ := h2.get j k hk
    exact (h.hp j k0 hk0).sub hsub
  · obtain ⟨k0, hk0, hsub⟩ := h2.get j k hk
    exact h.fix j k0 hj hk0 (hsub.mv hm)
theorem con_of_X {P : Program} [Gl P] {Y : TT P} {L : CTab} {K : Nat} {c : Ct} {f : FuncId} {fn : Func} {code : Code} {an : An} (hf : P.funcs[f]? = some fn) (hname : (fn.name == "runtime.NumGoroutine") = false) (hb : fn.body = some code)
    (hm : P.follows .mixedOrders = true) (hL : CTabOk P L) {rvs : List ResultVar} (hrv : fn.results.toList = rvs) {nt : Nat} (hnt : fn.ntmps = nt) (hn : c.hs.length ≤ 1000)
    (h : ∀ x y, c.F x = some y → walk std Y L K c rvs nt code an x = some y) : CtOk P f c := by
  subst hrv; subst hnt
  intro w β S vs args hs res hs' hF hp
  refine .inl ⟨Go.MuLone.run_callFunc_enter hf hname hb vs w, calls_of_wp hf hb ?_⟩
  obtain ⟨a, b, ha, hbb, x, y, hy, hds, hres⟩ := funOf_some hF
  have hlen : hs.length = c.hs.length := grabBs_len hbb
  obtain ⟨e1, e2, he, h3, h4⟩ := DSubs.split hds
  obtain ⟨vs', g1, g2⟩ := fillShs_grab ha h3 e2 fun vs ds => fillBs c.hs ds fun ks _ => (⟨vs ++ List.replicate (fn.ntmps - vs.length) .undef, enumB 0 ks⟩ : XSt)
  obtain ⟨ks', g3, g4⟩ := fillBs_grab hbb h4 [] fun ks _ => (⟨vs' ++ List.replicate (fn.ntmps - vs'.length) .undef, enumB 0 ks⟩ : XSt)
  rw [List.append_nil] at g3
  have hstart : ∀ {α : Type} (q : XSt → α), startK c fn.ntmps x q = q ⟨vs' ++ List.replicate (fn.ntmps - vs'.length) .undef, enumB 0 ks'⟩ := fun q => by
    have e : startK c fn.ntmps x id = ⟨vs' ++ List.replicate (fn.ntmps - vs'.length) .undef, enumB 0 ks'⟩ := by
      unfold startK; rw [he]; exact g1.trans g3
    rw [← e]
    unfold startK
    rw [fillShs_nat q]
    congr 1
    funext vs ds
    rw [fillBs_nat q]
    rfl
  have hwalk := h x y hy
  unfold walk at hwalk
  rw [hstart] at hwalk
  have hx : Ctx.ok hp.ctx := fun k hk => hk
  have hgood := start hp fn.ntmps
  have hweak : Weak hs.length (st0 args hs fn.ntmps) (⟨vs' ++ List.replicate (fn.ntmps - vs'.length) .undef, enumB 0 ks'⟩ : XSt).st := by
    refine Weak.sub ?_ fun b k' hk => ?_
    · have : ∀ {l l' : List SV}, SSubs l l' → SSubs (l ++ List.replicate (fn.ntmps - l.length) .undef) (l' ++ List.replicate (fn.ntmps - l'.length) .undef) := fun {l l'} h => by
        rw [h.len]
        have ap : ∀ {l l' m : List SV}, SSubs l l' → SSubs (l ++ m) (l' ++ m) := fun {l l' m} h => by
          induction l generalizing l' with
          | nil => cases l' with
            | nil => exact SSubs.refl m
            | cons _ _ => exact h.elim
          | cons x l ih => cases l' with
            | nil => exact h.elim
            | cons y l' => exact ⟨h.1, ih h.2⟩
        exact ap h
      exact this g2
    · have hk' : hpL (enumB 0 ks') b = some k' := hk
      rw [enumB_get, if_pos (Nat.zero_le _)] at hk'
      obtain ⟨k, h1, h2⟩ := g4.get b k' (by simpa using hk')
      exact ⟨k, h1, h2⟩
  have hgood' := hweak _ _ _ _ w rfl hx hgood
  have fin : ∀ (x' : tup (tysShs c.rs ++ tysBs c.hr)) (st : St) (a : Act) (w' : World), some x' = some y → RetOk Y c.hs.length fn.results.toList c.rs c.hr x' st → Good hp.ctx st a w' →
      a.defers = [] ∧ ∃ v, (results fn a.tmps).run P w' = .ok v w' ∧ ∃ v' β' S', Ending.returned v = .returned v' ∧ Post w w' β β' S S' hs hs' v' res := by
    rintro x' st a w' hxy ⟨st', hw, vs1, ks1, hpk, hs1, hs2⟩ hg
    cases hxy
    rw [← hlen] at hw hpk
    obtain ⟨hd, β1, S1, hr⟩ := hw _ _ _ a w' rfl hx hg
    obtain ⟨v, e1, β', S', e2⟩ := leave hp hr hpk
    have hrr : fillR c.rs c.hr y = (res, hs') := hres.symm
    rw [hrr] at hs1 hs2
    exact ⟨hd, v, e1, v, β', S', rfl, e2.sub hs1 hs2⟩
  refine X_sound (Z := hp.ctx) hL hm hx hlen hp.n code an y _ _ _ _ _ _ w (fun s a w' hk hg => ?_) (fun id s a w' hk hg => by cases hk) (fun x' st a w' hk hr hg => fin x' st a w' hk hr hg) hwalk hgood'
  obtain ⟨x', h1, h2⟩ := retK_some hk
  exact fin x' s.st a w' h1 h2 hg
end Go.U
