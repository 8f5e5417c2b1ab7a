/- A part of the proof. No condition. -/
import Derived.Test.YtclapampnmjmoaaGreatDoorUXb
set_option linter.unusedVariables false
set_option linter.unusedSimpArgs false
set_option linter.unusedSectionVars false
namespace Go.U
open Go
structure Ct where
  ps : List Sh
  hs : List BSh
  rs : List Sh
  hr : List BSh
  refs : List Bool
  F : tup (tysShs ps ++ tysBs hs) → Option (tup (tysShs rs ++ tysBs hr))
def funOf (c : Ct) : Fun := fun args hs => match grabShs c.ps args, grabBs c.hs hs with
  | some a, some b => unDs _ (a ++ b) fun x => bindO (c.F x) fun r => some (fillShs c.rs (toDs _ r) fun vs ds => fillBs c.hr ds fun ks _ => (vs, ks))
  | _, _ => none
def fitL : Lf → SV → Bool
  | .u, _ => true
  | .v (.i _), .d (.i _ _) => true
  | .v .b, .d (.b _) => true
  | .v .s, .d (.str _) => true
  | .v .e, .d (.er _) => true
  | .v (.l _), .d (.rov _ _) => true
  | .v (.l _), .d .emp => true
  | .v (.l _), .sl _ _ _ => true
  | .v (.l _), .all _ => true
  | .all _, .all _ => true
  | .bb _, .bb _ => true
  | .ptr _ _ _, .ptr _ _ _ => true
  | .pon _ _ _, .ptr _ _ _ => true
  | .pon _ _ _, .pon _ _ _ => true
  | .nilp, .d .nilp => true
  | .emp, .d .emp => true
  | .k q n, .d (.i q' n') => decide (q' = q) && decide (n' = n)
  | _, _ => false
def fitLs : List Lf → List SV → Bool
  | [], [] => true
  | x :: xs, v :: vs => fitL x v && fitLs xs vs
  | _, _ => false
def fitSh : Sh → SV → Bool
  | .l x, v => fitL x v
  | .agg xs, .agg vs => fitLs xs vs
  | .clo f xs, .clo f' vs => f' == f && fitLs xs vs
  | _, _ => false
def fitShs : List Sh → List SV → Bool
  | [], [] => true
  | x :: xs, v :: vs => fitSh x v && fitShs xs vs
  | _, _ => false
abbrev CTab := List (Nat × Ct)
def pick : CTab → Nat → List SV → Option Ct
  | [], _, _ => none
  | (f, c) :: l, g, args => if f = g then (match fitShs c.ps args with | true => some c | false => pick l g args) else pick l g args
def exactV : SV → Bool
  | .d .emp => false
  | .d .emq => false
  | .d _ => true
  | .ptr _ _ _ => true
  | _ => false
def exactB (k : Blk) : Bool := !k.mv && (match k.c with | .row _ _ => true | .mix _ els => els.all fun l => l.all exactV | .map _ _ => true)
def funOfK (c : Ct) : Fun := fun args hs => match hs.all exactB with
  | true => match funOf c args hs with
    | some p => some (p.1, hs)
    | none => none
  | false => none
def funT (c : Ct) : Fun := match keptR c.refs with
  | true => funOfK c
  | false => funOf c
def tabL (L : CTab) : Tab := fun f args => match pick L f args with | some c => some (funT c, c.refs) | none => none
def CtOk (P : Program) [Gl P] (f : Nat) (c : Ct) : Prop := Con P f (funOf c)
def CtKeep (P : Program) [Gl P] (f : Nat) (c : Ct) : Prop := Con P f (funOfK c)
def CTabOk (P : Program) [Gl P] (L : CTab) : Prop := ∀ p ∈ L, Con P p.1 (funT p.2)
theorem pick_mem : ∀ (L : CTab) (f : Nat) (args : List SV) (c : Ct), pick L f args = some c → (f, c) ∈ L
  | [], _, _, _, h => by cases h
  | (g, c) :: l, f, args, c', h => by
    simp only [pick] at h
    split at h
    · rename_i e
      subst e
      split at h
      · cases h; simp
      · exact List.mem_cons_of_mem _ (pick_mem l _ args c' h)
    · exact List.mem_cons_of_mem _ (pick_mem l f args c' h)
theorem tabL_ok {P : Program} [Gl P] {L : CTab} (h : CTabOk P L) : TabOk P (tabL L) := by
  refine ⟨fun f xs F r hF => ?_, fun f xs F r hF hk args hs res hs' h => ?_⟩
  · unfold tabL at hF
    split at hF
    · rename_i c hc
      cases hF
      exact h _ (pick_mem L f xs c hc)
    · cases hF
  unfold tabL at hF
  split at hF
  · rename_i c hc
    cases hF
    simp only [funT, hk, funOfK] at h
    split at h
    · split at h
      · cases h; rfl
      · cases h
    · cases h
  · cases hF
theorem ctabOk_nil {P : Program} [Gl P] : CTabOk P [] := fun _ h => by cases h
theorem ctabOk_cons {P : Program} [Gl P] {f : Nat} {c : Ct} {L : CTab} (h : CtOk P f c) (hl : CTabOk P L) (hk : keptR c.refs = false := by rfl) : CTabOk P ((f, c) :: L) := fun p hp => by
  rw [List.mem_cons] at hp
  rcases hp with rfl | hp
  · show Con P f (funT c)
    simp only [funT, hk]
    exact h
  · exact hl p hp
def fitN (n bytes : Nat) : Bool := decide (n * bytes ≤ 140737488355328)
def opNewK {ρ : Type} (C : Cmb) {P : Program} (Y : TT P) (s : XSt) (d : Nat) (op : Op) (k : XSt → Option ρ) : Option ρ :=
  match op with
  | .makeSlice t l c => match tdAt Y t with
    | some (.sl e) => match Y.f e, ev s.st l, ev s.st c with
      | some i, .d (.i _ n), .d (.i _ m) => match i.ty with
        | some ty => match dec ty (i.zero.map SV.d) with
          | some (z, []) => if i.size = 0 ∨ i.bytes = 0 then none else
            C.guard (decide (n = m ∧ 0 ≤ n ∧ i.bytes * n.toNat ≤ 281474976710656)) (doneK [newId d] s ((s.st.newB (newId d) ⟨i.size, false, .row ty (List.replicate n.toNat z)⟩).put (some d) (.all (newId d))) k)
          | _ => none
        | none => none
      | _, _, _ => none
    | _ => none
  | .build t parts => optK (buildS Y s.st t parts.toList) fun v => putK s (some d) v k
  | op => optK (opNew Y s.st d op) fun st' => doneK [newId d] s st' k
def srcK {ρ : Type} (C : Cmb) {P : Program} (Y : TT P) (hp : Nat → Option Blk) (t0 : Ty) (t : TypeId) (x : SV) (k : List t0.den → Option ρ) : Option ρ :=
  match tdAt Y t, x with
  | some (.sl _), .sl b off len => match hp b with
    | some ⟨_, _, .row t' xs⟩ => if h : t' = t0 then C.guard (decide (off + len ≤ xs.length)) (k (h ▸ ((xs.drop off).take len))) else none
    | _ => none
  | _, _ => optK (srcEls Y hp t0 t x) k
def appendK {ρ : Type} (C : Cmb) {P : Program} (Y : TT P) (s : XSt) (d : Nat) (t u : TypeId) (x y : SV) (k : XSt → Option ρ) : Option ρ :=
  match tdAt Y t with
  | some (.sl e) => match Y.f e with
    | some i => match appTy s.st.hp i.ty x with
      | some t0 => if i.size ≠ t0.size ∨ i.bytes = 0 ∨ t0.fits e = false then none else srcK C Y s.st.hp t0 u y fun news =>
        match x with
        | .d .emp => C.guard (fitN news.length i.bytes) (doneK [newId d] s ((s.st.newB (newId d) ⟨i.size, false, .row t0 news⟩).put (some d) (.all (newId d))) k)
        | .d .emq => C.guard (fitN news.length i.bytes) (doneK [newId d] s ((s.st.newB (newId d) ⟨i.size, false, .row t0 news⟩).put (some d) (.all (newId d))) k)
        | .bb b => match s.st.hp b with
          | some ⟨s', _, .row t' xs⟩ => if h : t' = t0 then (if s' = i.size then
              C.guard (fitN (xs.length + news.length) i.bytes) (doneK [newId d] s ((s.st.newB b ⟨i.size, true, .row t0 ((h ▸ xs) ++ news)⟩).put (some d) (.bb b)) k) else none) else none
          | _ => none
        | .all b => match s.st.hp b with
          | some ⟨s', _, .row t' xs⟩ => if h : t' = t0 then (if s' = i.size then
              C.guard (fitN (xs.length + news.length) i.bytes) (doneK [newId d] s ((s.st.newB b ⟨i.size, true, .row t0 ((h ▸ xs) ++ news)⟩).put (some d) (.all b)) k) else none) else none
          | _ => none
        | .sl b off len => match s.st.hp b with
          | some ⟨s', _, .row t' xs⟩ => if h : t' = t0 then (if s' = i.size ∧ t0.isY = false then
              C.guard (decide (off + len ≤ xs.length) && fitN (len + news.length) i.bytes) (doneK [newId d] s ((s.st.newB b ⟨i.size, true, .row t0 (((h ▸ xs : List t0.den).drop off).take len ++ news)⟩).put (some d) (.all b)) k) else none) else none
          | _ => none
        | _ => none
      | none => none
    | none => none
  | _ => none
def storeK {ρ : Type} (C : Cmb) {P : Program} (Y : TT P) (st : St) (t : TypeId) (p v : SV) (k : St → Option ρ) : Option ρ :=
  match p with
  | .ptr b e c => match st.hp b with
    | some ⟨s, mv, .row ty xs⟩ => match szOf Y t, v.cells with
      | some n, some vs => if vs.length ≠ n then none else
        C.nthN xs e fun x => if c + n ≤ ((ty.enc x).map SV.d).length then
          (match dec ty (((ty.enc x).map SV.d).take c ++ vs ++ ((ty.enc x).map SV.d).drop (c + n)) with
          | some (y, []) => k { st with hp := hset st.hp b ⟨s, mv, .row ty (xs.set e y)⟩ }
          | _ => none) else none
      | _, _ => none
    | _ => optK (storeSt Y st t p v) k
  | _ => optK (storeSt Y st t p v) k
def copyK {ρ : Type} (C : Cmb) {P : Program} (Y : TT P) (st : St) (t u : TypeId) (x y : SV) (k : St × Nat → Option ρ) : Option ρ :=
  match tdAt Y t, x with
  | some (.sl e), .sl b off len => match szOf Y e, st.hp b with
    | some s, some ⟨s', mv, .row t0 xs⟩ => if s ≠ t0.size ∨ s' ≠ s ∨ t0.isY = true then none else srcK C Y st.hp t0 u y fun news =>
      C.guard (decide (off + len ≤ xs.length)) (k ({ st with hp := hset st.hp b ⟨s', mv, .row t0 (xs.take off ++ news.take (min news.length len) ++ xs.drop (off + min news.length len))⟩ }, min news.length len))
    | _, _ => none
  | some (.sl e), .all b => match szOf Y e, st.hp b with
    | some s, some ⟨s', mv, .row t0 xs⟩ => if s ≠ t0.size ∨ s' ≠ s ∨ t0.isY = true then none else srcK C Y st.hp t0 u y fun news =>
      k ({ st with hp := hset st.hp b ⟨s', mv, .row t0 (news.take (min news.length xs.length) ++ xs.drop (min news.length xs.length))⟩ }, min news.length xs.length)
    | _, _ => none
  | _, _ => none
def opPutK {ρ : Type} (C : Cmb) {P : Program} (Y : TT P) (s : XSt) (dst : Option Nat) (op : Op) (k : XSt → Option ρ) : Option ρ :=
  match op with
  | .store t p v => storeK C Y s.st t (ev s.st p) (ev s.st v) fun st' => doneK [] s (st'.put dst .undef) k
  | .mapUpdate t m x v => optK (updS Y s.st t (ev s.st m) (ev s.st x) (ev s.st v)) fun st' => doneK [] s (st'.put dst .undef) k
  | .insert t m x v => optK (updS Y s.st t (ev s.st m) (ev s.st x) (ev s.st v)) fun st' => doneK [] s (st'.put dst .undef) k
  | .call { callee := .builtin .append, args, argTypes } =>
    match args.toList, argTypes.toList, dst with
    | [x, y], [t, u], some d => appendK C Y s d t u (ev s.st x) (ev s.st y) k
    | _, _, _ => none
  | .call { callee := .builtin .copy, args, argTypes } =>
    match args.toList, argTypes.toList with
    | [x, y], [t, u] => copyK C Y s.st t u (ev s.st x) (ev s.st y) fun r => doneK [] s (r.1.put dst (.d (.i .i64 (r.2 : Int)))) k
    | _, _ => none
  | _ => none
def prepK {ρ : Type} (C : Cmb) (hp : Nat → Option Blk) : List Bool → List SV → (List SV → List Nat → Option ρ) → Option ρ
  | _, [], k => k [] []
  | true :: refs, c :: cs, k => prepK C hp refs cs fun xs V => k (c :: xs) V
  | refs, .sl b off len :: cs, k => match hp b with
    | some ⟨_, _, .row t xs⟩ => C.guard (decide (off + len ≤ xs.length)) (prepK C hp refs.tail cs fun ys V => k (.d (.rov t ((xs.drop off).take len)) :: ys) (b :: V))
    | _ => none
  | refs, c :: cs, k => optK (viewS hp c) fun x => prepK C hp refs.tail cs fun xs V => k (x :: xs) (c.slIds ++ V)
def callK {ρ : Type} (C : Cmb) (L : CTab) (s : XSt) (dst : Option Nat) (fo : Operand) (args : List Operand) (k : XSt → Option ρ) : Option ρ :=
  match ev s.st fo with
  | .clo f caps => match pick L f (args.map (ev s.st) ++ caps) with
    | some c => if dst.getD 0 < 999999 ∧ f < 1000000 then
        prepK C s.st.hp c.refs (args.map (ev s.st) ++ caps) fun args1 V => match reach s.st.hp 200 [] (SV.idsL args1) with
          | some ids => if V.any (fun b => decide (b ∈ ids)) || decide (1000 < ids.length) then none else
            match grabShs c.ps (SV.renL (idx ids) args1), grabBs c.hs (blocksOf s.st.hp ids 0 ids) with
            | some a, some b => unDs _ (a ++ b) fun x => C.bind (c.F x) fun r => fillShs c.rs (toDs _ r) fun vs ds => match keptR c.refs with
              | true => (match (blocksOf s.st.hp ids 0 ids).all exactB with
                | true => optK (land s.st dst ids V vs (blocksOf s.st.hp ids 0 ids)) fun st' => doneK ids s st' k
                | false => none)
              | false => fillBs c.hr ds fun ks _ => optK (land s.st dst ids V vs ks) fun st' => doneK (ids ++ news (dst.getD 999999) (ks.length - ids.length)) s st' k
            | _, _ => none
          | none => none
      else none
    | none => none
  | _ => none
section
variable {P : Program} {Y : TT P} {ρ : Type} {r : ρ} {k : XSt → Option ρ}
theorem newB_keys {st : St} {b : Nat} {kb : Blk} {x : Nat} (h : (st.newB b kb).hp x ≠ none) : x = b ∨ st.hp x ≠ none := by
  by_cases hx : x = b
  · exact .inl hx
  · refine .inr ?_
    simp only [St.newB] at h
    rw [hset_ne hx] at h
    simp only [St.kill] at h
    intro e
    rw [e] at h
    exact h rfl
theorem put_hp (st : St) (dst : Option Nat) (v : SV) : (st.put dst v).hp = st.hp := by cases dst <;> rfl
theorem opNew_keys {st st' : St} {d : Nat} {op : Op} (h : opNew Y st d op = some st') : ∀ x, st'.hp x ≠ none → x = newId d ∨ st.hp x ≠ none := by
  intro x hx
  unfold opNew at h
  split at h
  · split at h
    · split at h
      · cases h
      · cases h; rw [put_hp] at hx; exact newB_keys hx
    · cases h
  · split at h
    · split at h
      · cases h
      · cases h; rw [put_hp] at hx; exact newB_keys hx
    · cases h
  · rename_i t parts
    cases hb : buildS Y st t parts.toList with
    | none => rw [hb] at h; cases h
    | some v => rw [hb] at h; cases h; rw [put_hp] at hx; exact .inr hx
  · split at h
    · split at h
      · split at h
        · cases h
        · rename_i t n parts _ e _ _ i _ _
          cases hb : fillEls i.size (List.replicate n (i.zero.map SV.d)) (parts.toList.map fun p => (p.1, ev st p.2)) with
          | none => rw [hb] at h; cases h
          | some v => rw [hb] at h; cases h; rw [put_hp] at hx; exact newB_keys hx
      · cases h
    · cases h
  · split at h
    · split at h
      · split at h
        · split at h
          · split at h
            · cases h
            · cases h; rw [put_hp] at hx; exact newB_keys hx
          · cases h
        · cases h
      · cases h
    · cases h
  · split at h
    · split at h
      · cases h; rw [put_hp] at hx; exact newB_keys hx
      · cases h
    · cases h
  · split at h
    · split at h
      · split at h
        · split at h
          · split at h
            · cases h; rw [put_hp] at hx; exact newB_keys hx
            · cases h
          · cases h
        · cases h
      · cases h
    · cases h
  · cases h
theorem opNewK_some {s : XSt} {d : Nat} {op : Op} (h : opNewK std Y s d op k = some r) : ∃ s', opNew Y s.st d op = some s'.st ∧ k s' = some r := by
  unfold opNewK at h
  split at h
  · rename_i t l c
    split at h
    case h_2 => cases h
    rename_i e ht
    split at h
    case h_2 => cases h
    rename_i i q n q' m hi hl hc
    split at h
    case h_2 => cases h
    rename_i ty hty
    split at h
    case h_2 => cases h
    rename_i z hz
    split at h
    · cases h
    rename_i hcond
    obtain ⟨h1, h2⟩ := guard_some h
    obtain ⟨e1, e2, e3⟩ := of_decide_eq_true h1
    obtain ⟨s', q1, q2⟩ := doneK_eq (bs := [newId d]) (s := s) (k := k) (st' := (s.st.newB (newId d) ⟨i.size, false, .row ty (List.replicate n.toNat z)⟩).put (some d) (.all (newId d))) (fun b hb => by
      rw [put_hp] at hb
      simpa using newB_keys hb)
    rw [q1] at h2
    refine ⟨s', ?_, h2⟩
    rw [q2]
    simp only [opNew, ht, hi, hl, hc, hty, hz]
    rw [if_neg (by rintro (h | h | h | h | h) <;> omega)]
  · rename_i t parts
    obtain ⟨v, h1, h2⟩ := optK_some h
    obtain ⟨s', q1, q2⟩ := putK_eq s (some d) v k
    rw [q1] at h2
    exact ⟨s', by simp only [opNew, h1, Option.map_some, q2], h2⟩
  · obtain ⟨st', h1, h2⟩ := optK_some h
    obtain ⟨s', q1, q2⟩ := doneK_eq (bs := [newId d]) (s := s) (k := k) (st' := st') (fun b hb => by simpa using opNew_keys h1 b hb)
    rw [q1] at h2
    exact ⟨s', by rw [q2]; exact h1, h2⟩
theorem srcK_some {hp : Nat → Option Blk} {t0 : Ty} {t : TypeId} {x : SV} {k : List t0.den → Option ρ} (h : srcK std Y hp t0 t x k = some r) : ∃ v, srcEls Y hp t0 t x = some v ∧ k v = some r := by
  unfold srcK at h
  split at h
  · rename_i e b off len ht
    split at h
    · rename_i s mv t' xs hk
      split at h
      · rename_i e; subst e
        obtain ⟨h1, h2⟩ := guard_some h
        exact ⟨_, by unfold srcEls; simp only [ht, hk, dif_pos, if_pos (of_decide_eq_true h1)], h2⟩
      · cases h
    · cases h
  · exact optK_some h
theorem fitN_spec {n b : Nat} (h : fitN n b = true) (hb : b ≠ 0) : n * b ≤ 140737488355328 ∧ n ≤ maxSum := by
  have h1 := of_decide_eq_true h
  refine ⟨h1, ?_⟩
  have : n * 1 ≤ n * b := Nat.mul_le_mul_left _ (by omega)
  unfold maxSum
  omega
theorem appendK_some {s : XSt} {d : Nat} {t u : TypeId} {x y : SV} (h : appendK std Y s d t u x y k = some r) : ∃ s', appendSt Y s.st d t u x y = some s'.st ∧ k s' = some r := by
  unfold appendK at h
  split at h
  case h_2 => cases h
  rename_i e ht
  split at h
  case h_2 => cases h
  rename_i i hi
  split at h
  case h_2 => cases h
  rename_i t0 hty
  split at h
  · cases h
  rename_i hsz
  have hs1 : ¬ (i.size ≠ t0.size ∨ t0.fits e = false) := fun e => hsz (e.elim .inl fun e => .inr (.inr e))
  have hs2 : i.bytes ≠ 0 := fun e => hsz (.inr (.inl e))
  obtain ⟨news, hnews, h⟩ := srcK_some h
  have done : ∀ (st' : St), (∀ b, st'.hp b ≠ none → b ∈ [newId d] ∨ s.st.hp b ≠ none) → doneK [newId d] s st' k = some r → ∃ s', some st' = some s'.st ∧ k s' = some r := fun st' hk h => by
    obtain ⟨s', q1, q2⟩ := doneK_eq (k := k) hk
    rw [q1] at h
    exact ⟨s', by rw [q2], h⟩
  unfold appendSt
  simp only [ht, hi, hty, if_neg hs1, hnews]
  split at h
  · obtain ⟨h1, h2⟩ := guard_some h
    simp only [if_pos (fitN_spec h1 hs2)]
    exact done _ (fun b hb => by rw [put_hp] at hb; simpa using newB_keys hb) h2
  · obtain ⟨h1, h2⟩ := guard_some h
    simp only [if_pos (fitN_spec h1 hs2)]
    exact done _ (fun b hb => by rw [put_hp] at hb; simpa using newB_keys hb) h2
  · rename_i b
    split at h
    · rename_i s' mv t' xs hk
      split at h
      · rename_i e; subst e
        split at h
        · rename_i hss
          obtain ⟨h1, h2⟩ := guard_some h
          simp only [hk, dif_pos, if_pos (And.intro hss (fitN_spec h1 hs2))]
          exact done _ (fun x hb => by
            rw [put_hp] at hb
            rcases newB_keys hb with rfl | hb
            · exact .inr (by rw [hk]; simp)
            · exact .inr hb) h2
        · cases h
      · cases h
    · cases h
  · rename_i b
    split at h
    · rename_i s' mv t' xs hk
      split at h
      · rename_i e; subst e
        split at h
        · rename_i hss
          obtain ⟨h1, h2⟩ := guard_some h
          simp only [hk, dif_pos, if_pos (And.intro hss (fitN_spec h1 hs2))]
          exact done _ (fun x hb => by
            rw [put_hp] at hb
            rcases newB_keys hb with rfl | hb
            · exact .inr (by rw [hk]; simp)
            · exact .inr hb) h2
        · cases h
      · cases h
    · cases h
  · rename_i b off len
    split at h
    · rename_i s' mv t' xs hk
      split at h
      · rename_i e; subst e
        split at h
        · rename_i hss
          obtain ⟨h1, h2⟩ := guard_some h
          rw [Bool.and_eq_true] at h1
          obtain ⟨h1, h3⟩ := h1
          have hf3 := fitN_spec h3 hs2
          simp only [hk, dif_pos, if_pos (And.intro hss.1 (And.intro (of_decide_eq_true h1) (And.intro hf3.1 (And.intro hf3.2 hss.2))))]
          exact done _ (fun x hb => by
            rw [put_hp] at hb
            rcases newB_keys hb with rfl | hb
            · exact .inr (by rw [hk]; simp)
            · exact .inr hb) h2
        · cases h
      · cases h
    · cases h
  · cases h
theorem hset_keys {hp : Nat → Option Blk} {b : Nat} {kb k0 : Blk} (hb : hp b = some k0) {x : Nat} (h : hset hp b kb x ≠ none) : hp x ≠ none := by
  by_cases hx : x = b
  · subst hx; rw [hb]; simp
  · rwa [hset_ne hx] at h
theorem storeK_some {st : St} {t : TypeId} {p v : SV} {k : St → Option ρ} (h : storeK std Y st t p v k = some r) : ∃ st', storeSt Y st t p v = some st' ∧ (∀ b, st'.hp b ≠ none → st.hp b ≠ none) ∧ k st' = some r := by
  have gen : optK (storeSt Y st t p v) k = some r → ∃ st', storeSt Y st t p v = some st' ∧ (∀ b, st'.hp b ≠ none → st.hp b ≠ none) ∧ k st' = some r := fun h => by
    obtain ⟨st', h1, h2⟩ := optK_some h
    refine ⟨st', h1, fun x hx => ?_, h2⟩
    unfold storeSt at h1
    split at h1
    case h_2 => cases h1
    rename_i n b e c xs hn hxs hh
    split at h1
    · cases h1
    split at h1
    case h_2 => cases h1
    rename_i kb hk
    split at h1
    case h_2 => cases h1
    rename_i cs hcs
    split at h1
    case isFalse => cases h1
    cases hq : kb.c.setEl e (cs.take c ++ xs ++ cs.drop (c + n)) with
    | none => rw [hq] at h1; cases h1
    | some bc => rw [hq] at h1; cases h1; exact hset_keys hk hx
  unfold storeK at h
  split at h
  · rename_i b e c
    split at h
    · rename_i s mv ty xs hk
      split at h
      case h_2 => cases h
      rename_i n vs hn hvs
      split at h
      · cases h
      rename_i hvl
      obtain ⟨x, hx, h1⟩ := nthN_some h
      split at h1
      case isFalse => cases h1
      rename_i hle
      split at h1
      case h_2 => cases h1
      rename_i y hy
      refine ⟨_, ?_, fun z hz => hset_keys hk hz, h1⟩
      unfold storeSt
      simp only [hn, hvs, hk, if_neg hvl, BC.el?, hx, Option.map_some, if_pos hle, BC.setEl, hy]
    · exact gen h
  · exact gen h
theorem copyK_some {st : St} {t u : TypeId} {x y : SV} {k : St × Nat → Option ρ} (h : copyK std Y st t u x y k = some r) : ∃ p, copySt Y st t u x y = some p ∧ (∀ b, p.1.hp b ≠ none → st.hp b ≠ none) ∧ k p = some r := by
  unfold copyK at h
  split at h
  · rename_i e b off len ht
    split at h
    case h_2 => cases h
    rename_i s s' mv t0 xs hs hk
    split at h
    · cases h
    rename_i hc
    obtain ⟨news, hnews, h⟩ := srcK_some h
    obtain ⟨h1, h2⟩ := guard_some h
    refine ⟨_, ?_, fun z hz => hset_keys hk hz, h2⟩
    unfold copySt
    simp only [ht, hs, hk, if_neg hc, hnews, if_pos (of_decide_eq_true h1)]
  · rename_i e b ht
    split at h
    case h_2 => cases h
    rename_i s s' mv t0 xs hs hk
    split at h
    · cases h
    rename_i hc
    obtain ⟨news, hnews, h⟩ := srcK_some h
    refine ⟨_, ?_, fun z hz => hset_keys hk hz, h⟩
    unfold copySt
    simp only [ht, hs, hk, if_neg hc, hnews]
  · cases h
theorem updS_keys {st st' : St} {t : TypeId} {x y v : SV} (h : updS Y st t x y v = some st') : ∀ b, st'.hp b ≠ none → st.hp b ≠ none := by
  intro b hb
  unfold updS at h
  split at h
  · split at h
    · split at h
      · rename_i hk
        split at h
        · split at h
          · cases h; exact hset_keys hk hb
          · cases h
        · cases h
      · cases h
    · cases h
  · cases h
theorem opPutK_some {s : XSt} {dst : Option Nat} {op : Op} (h : opPutK std Y s dst op k = some r) : ∃ s', opPut Y s.st dst op = some s'.st ∧ k s' = some r := by
  unfold opPutK at h
  split at h
  · rename_i t p v
    obtain ⟨st', h1, h2, h3⟩ := storeK_some h
    obtain ⟨s', q1, q2⟩ := doneK_eq (bs := []) (s := s) (k := k) (st' := st'.put dst .undef) (fun b hb => by rw [put_hp] at hb; exact .inr (h2 b hb))
    rw [q1] at h3
    exact ⟨s', by simp only [opPut, h1, Option.map_some, q2], h3⟩
  · rename_i t m x v
    obtain ⟨st', h1, h3⟩ := optK_some h
    obtain ⟨s', q1, q2⟩ := doneK_eq (bs := []) (s := s) (k := k) (st' := st'.put dst .undef) (fun b hb => by rw [put_hp] at hb; exact .inr (updS_keys h1 b hb))
    rw [q1] at h3
    exact ⟨s', by simp only [opPut, h1, Option.map_some, q2], h3⟩
  · rename_i t m x v
    obtain ⟨st', h1, h3⟩ := optK_some h
    obtain ⟨s', q1, q2⟩ := doneK_eq (bs := []) (s := s) (k := k) (st' := st'.put dst .undef) (fun b hb => by rw [put_hp] at hb; exact .inr (updS_keys h1 b hb))
    rw [q1] at h3
    exact ⟨s', by simp only [opPut, h1, Option.map_some, q2], h3⟩
  · split at h
    · rename_i x y t u d e1 e2
      obtain ⟨s', h1, h2⟩ := appendK_some h
      exact ⟨s', by simp only [opPut, e1, e2]; exact h1, h2⟩
    · cases h
  · split at h
    · rename_i x y t u e1 e2
      obtain ⟨p, h1, h2, h3⟩ := copyK_some h
      obtain ⟨s', q1, q2⟩ := doneK_eq (bs := []) (s := s) (k := k) (st' := p.1.put dst (.d (.i .i64 (p.2 : Int)))) (fun b hb => by rw [put_hp] at hb; exact .inr (h2 b hb))
      rw [q1] at h3
      exact ⟨s', by simp only [opPut, e1, e2, h1, Option.map_some, q2], h3⟩
    · cases h
  · cases h
theorem prepK_some {hp : Nat → Option Blk} : ∀ (refs : List Bool) (cs : List SV) (k : List SV → List Nat → Option ρ), prepK std hp refs cs k = some r → ∃ xs V, prep hp refs cs = some (xs, V) ∧ k xs V = some r := by
  intro refs cs
  induction cs generalizing refs with
  | nil => intro k h; cases refs with
    | nil => exact ⟨[], [], rfl, h⟩
    | cons b l => cases b <;> exact ⟨[], [], rfl, h⟩
  | cons c cs ih =>
    intro k h
    have gen : ∀ rs, optK (viewS hp c) (fun x => prepK std hp rs cs fun xs V => k (x :: xs) (c.slIds ++ V)) = some r → ∃ x xs V, viewS hp c = some x ∧ prep hp rs cs = some (xs, V) ∧ k (x :: xs) (c.slIds ++ V) = some r := fun rs h => by
      obtain ⟨x, h1, h2⟩ := optK_some h
      obtain ⟨xs, V, h3, h4⟩ := ih rs _ h2
      exact ⟨x, xs, V, h1, h3, h4⟩
    have slc : ∀ b off len rs, c = .sl b off len → (match hp b with
        | some ⟨_, _, .row t xs⟩ => std.guard (decide (off + len ≤ xs.length)) (prepK std hp rs cs fun ys V => k (.d (.rov t ((xs.drop off).take len)) :: ys) (b :: V))
        | _ => none) = some r → ∃ x xs V, viewS hp c = some x ∧ prep hp rs cs = some (xs, V) ∧ k (x :: xs) (c.slIds ++ V) = some r := fun b off len rs hc hm => by
      subst hc
      split at hm
      · rename_i s mv t xs hk
        obtain ⟨h1, h2⟩ := guard_some hm
        obtain ⟨ys, V, h3, h4⟩ := ih rs _ h2
        exact ⟨_, ys, V, by simp only [viewS, hk, if_pos (of_decide_eq_true h1)], h3, h4⟩
      · cases hm
    cases refs with
    | nil =>
      have : ∃ x xs V, viewS hp c = some x ∧ prep hp [] cs = some (xs, V) ∧ k (x :: xs) (c.slIds ++ V) = some r := by
        cases c with
        | sl b off len => exact slc b off len [] rfl h
        | _ => exact gen [] h
      obtain ⟨x, xs, V, h1, h2, h3⟩ := this
      exact ⟨_, _, by simp only [prep, h1, h2], h3⟩
    | cons b refs =>
      cases b with
      | true =>
        simp only [prepK] at h
        obtain ⟨xs, V, h3, h4⟩ := ih refs _ h
        exact ⟨_, _, by simp only [prep, h3, Option.map_some], h4⟩
      | false =>
        have : ∃ x xs V, viewS hp c = some x ∧ prep hp refs cs = some (xs, V) ∧ k (x :: xs) (c.slIds ++ V) = some r := by
          cases c with
          | sl b off len => exact slc b off len refs rfl h
          | _ => exact gen refs h
        obtain ⟨x, xs, V, h1, h2, h3⟩ := this
        exact ⟨_, _, by simp only [prep, h1, h2], h3⟩
theorem land_keys {st st' : St} {dst : Option Nat} {ids V : List Nat} {res : List SV} {hs' : List Blk} (h : land st dst ids V res hs' = some st') : ∀ x, st'.hp x ≠ none → x ∈ ids ++ news (dst.getD 999999) (hs'.length - ids.length) ∨ st.hp x ≠ none := by
  intro x hx
  unfold land at h
  simp only at h
  split at h
  · have key : ∀ (base : Nat → Option Blk), (∀ y, base y ≠ none → st.hp y ≠ none) → hsets base (landB st.hp (fun j => (ids ++ news (dst.getD 999999) (hs'.length - ids.length)).getD j 0) (ids ++ news (dst.getD 999999) (hs'.length - ids.length)) hs') x ≠ none →
        x ∈ ids ++ news (dst.getD 999999) (hs'.length - ids.length) ∨ st.hp x ≠ none := fun base hb h => by
      by_cases hin : x ∈ ids ++ news (dst.getD 999999) (hs'.length - ids.length)
      · exact .inl hin
      · rw [hsets_off _ fun p hp e => hin (by rw [← e]; exact landB_keys _ _ _ p hp)] at h
        exact .inr (hb x h)
    split at h
    · cases h
      rw [put_hp] at hx
      exact key _ (fun _ h => h) hx
    · cases h
      rw [put_hp] at hx
      exact key _ (fun y hy e => hy (by simp only [e, Option.map_none])) hx
  · cases h
theorem fillBs_const {α : Type} (xs : List BSh) (ds : List D) (a : α) : (fillBs xs ds fun _ _ => a) = a := (fillBs_nat (fun _ : Unit => a) xs ds fun _ _ => ()).symm
theorem fillShs_const {α : Type} (xs : List Sh) (ds : List D) (a : α) : (fillShs xs ds fun _ _ => a) = a := (fillShs_nat (fun _ : Unit => a) xs ds fun _ _ => ()).symm
theorem callK_some {L : CTab} {s : XSt} {dst : Option Nat} {fo : Operand} {args : List Operand} (h : callK std L s dst fo args k = some r) : ∃ s', callS (tabL L) s.st dst fo args = some s'.st ∧ k s' = some r := by
  unfold callK at h
  split at h
  case h_2 => cases h
  rename_i f caps hev
  split at h
  case h_2 => cases h
  rename_i c hpick
  split at h
  case isFalse => cases h
  rename_i hdst
  obtain ⟨args1, V, hprep, h⟩ := prepK_some _ _ _ h
  split at h
  case h_2 => cases h
  rename_i ids hreach
  split at h
  · cases h
  rename_i hV
  split at h
  case h_2 => cases h
  rename_i a b ha hb
  obtain ⟨x, h1, h2⟩ := unDs_spec' _ _ _ h
  obtain ⟨y, hy, h3⟩ := bindO_some h1
  have hf : ∀ {α : Type} (q : List SV → List Blk → α), (fillShs c.rs (toDs _ y) fun vs ds => fillBs c.hr ds fun ks _ => q vs ks) = q (fillShs c.rs (toDs _ y) fun vs ds => fillBs c.hr ds fun ks _ => (vs, ks)).1 (fillShs c.rs (toDs _ y) fun vs ds => fillBs c.hr ds fun ks _ => (vs, ks)).2 := fun q => by
    have := fillShs_nat (fun p : List SV × List Blk => q p.1 p.2) c.rs (toDs _ y) fun vs ds => fillBs c.hr ds fun ks _ => (vs, ks)
    rw [this]
    congr 1
    funext vs ds
    exact (fillBs_nat (fun p : List SV × List Blk => q p.1 p.2) c.hr ds fun ks _ => (vs, ks)).symm
  have hF : funOf c (SV.renL (idx ids) args1) (blocksOf s.st.hp ids 0 ids) = some (fillShs c.rs (toDs _ y) fun vs ds => fillBs c.hr ds fun ks _ => (vs, ks)) := by
    unfold funOf
    simp only [ha, hb]
    rw [h2 (fun x => bindO (c.F x) fun r => some (fillShs c.rs (toDs _ r) fun vs ds => fillBs c.hr ds fun ks _ => (vs, ks)))]
    rw [hy]; rfl
  cases hkp : keptR c.refs with
  | false =>
    simp only [hkp] at h3
    rw [hf fun vs ks => optK (land s.st dst ids V vs ks) fun st' => doneK (ids ++ news (dst.getD 999999) (ks.length - ids.length)) s st' k] at h3
    obtain ⟨st', h4, h5⟩ := optK_some h3
    obtain ⟨s', q1, q2⟩ := doneK_eq (s := s) (k := k) (land_keys h4)
    rw [q1] at h5
    refine ⟨s', ?_, h5⟩
    rw [q2]
    unfold callS
    rw [hev]
    simp only [tabL, hpick, if_pos hdst, funT, hkp]
    unfold opCall
    rw [hprep]
    simp only [hreach, if_neg hV]
    rw [hF]
    exact h4
  | true =>
    simp only [hkp] at h3
    cases hex : (blocksOf s.st.hp ids 0 ids).all exactB with
    | false =>
      simp only [hex] at h3
      exfalso
      rw [fillShs_const] at h3
      cases h3
    | true =>
      simp only [hex] at h3
      have hf2 : ∀ {α : Type} (q : List SV → α), (fillShs c.rs (toDs _ y) fun vs _ => q vs) = q (fillShs c.rs (toDs _ y) fun vs ds => fillBs c.hr ds fun ks _ => (vs, ks)).1 := fun q => by
        refine Eq.trans ?_ (fillShs_nat (fun p : List SV × List Blk => q p.1) c.rs (toDs _ y) fun vs ds => fillBs c.hr ds fun ks _ => (vs, ks)).symm
        congr 1
        funext vs ds
        exact ((fillBs_nat (fun p : List SV × List Blk => q p.1) c.hr ds fun ks _ => (vs, ks)).trans (fillBs_const c.hr ds (q vs))).symm
      rw [hf2 fun vs => optK (land s.st dst ids V vs (blocksOf s.st.hp ids 0 ids)) fun st' => doneK ids s st' k] at h3
      obtain ⟨st', h4, h5⟩ := optK_some h3
      have hlk := land_keys h4
      have hl0 : (blocksOf s.st.hp ids 0 ids).length - ids.length = 0 := by
        have : ∀ (l : List Nat) (j : Nat), (blocksOf s.st.hp ids j l).length ≤ l.length := fun l => by
          induction l with
          | nil => intro j; simp [blocksOf]
          | cons b l ih =>
            intro j
            simp only [blocksOf]
            split
            · simp only [List.length_cons]; have := ih (j + 1); omega
            · simp only [List.length_cons]; have := ih (j + 1); omega
        have := this ids 0
        omega
      rw [hl0] at hlk
      have hlk2 : ∀ b, st'.hp b ≠ none → b ∈ ids ∨ s.st.hp b ≠ none := fun b hb => by
        have := hlk b hb
        simpa [news] using this
      obtain ⟨s', q1, q2⟩ := doneK_eq (s := s) (k := k) hlk2
      rw [q1] at h5
      refine ⟨s', ?_, h5⟩
      rw [q2]
      unfold callS
      rw [hev]
      simp only [tabL, hpick, if_pos hdst, funT, hkp]
      unfold opCall
      rw [hprep]
      simp only [hreach, if_neg hV]
      simp only [funOfK, hex, hF]
      exact h4
end
end Go.U
