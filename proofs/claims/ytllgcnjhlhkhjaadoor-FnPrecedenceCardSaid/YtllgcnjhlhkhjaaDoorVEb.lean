/- A part of the proof. No condition. -/
import Derived.Test.YtllgcnjhlhkhjaaDoorVEa
set_option linter.unusedVariables false
set_option linter.unusedSimpArgs false
set_option linter.unusedSectionVars false
namespace Go.U.Tryd
open Go Go.U Go.Proofs Go.Proofs.Tryd
set_option maxRecDepth 100000
def ct30s (F : (Int × List UInt8 × Int × Bool × List (Int × Int × List UInt8)) → Option (List UInt8 × Int × Bool × List (Int × Int × List UInt8))) : Ct := ⟨[.l (.ptr 0 0 0), .l (.v (.i .i64))], [⟨4, false, .mix (some 41) [[.l (.v .s), .l (.v (.i .i64)), .l (.all 1), .l (.v .b)]]⟩, ⟨3, true, .row (.c (.i .i64) (.c (.i .i64) .s))⟩], [], [⟨4, false, .mix (some 41) [[.l (.v .s), .l (.v (.i .i64)), .l (.all 1), .l (.v .b)]]⟩, ⟨3, true, .row (.c (.i .i64) (.c (.i .i64) .s))⟩], [], F⟩
def ct18s (F : (Int × Int × List UInt8 × Int × Bool × List (Int × Int × List UInt8)) → Option (List UInt8 × Int × Bool × List (Int × Int × List UInt8))) : Ct := ⟨[.l (.ptr 0 0 0), .l (.v (.i .i64)), .l (.v (.i .i64))], [⟨4, false, .mix (some 41) [[.l (.v .s), .l (.v (.i .i64)), .l (.all 1), .l (.v .b)]]⟩, ⟨3, true, .row (.c (.i .i64) (.c (.i .i64) .s))⟩], [], [⟨4, false, .mix (some 41) [[.l (.v .s), .l (.v (.i .i64)), .l (.all 1), .l (.v .b)]]⟩, ⟨3, true, .row (.c (.i .i64) (.c (.i .i64) .s))⟩], [], F⟩
-- (*loop.example/g00460/spec.l2P).value
def F30b (F30i : (Int × List UInt8 × Int × Bool × List (Int × Int × List UInt8)) → Option (List UInt8 × Int × Bool × List (Int × Int × List UInt8))) (F18i : (Int × Int × List UInt8 × Int × Bool × List (Int × Int × List UInt8)) → Option (List UInt8 × Int × Bool × List (Int × Int × List UInt8))) (K : Nat) (x : Int × (List UInt8) × Int × Bool × List (Int × Int × List UInt8)) : Option ((List UInt8) × Int × Bool × List (Int × Int × List UInt8)) :=
  branch (decide (30 < x.1))
   (some (x.2.1, x.2.2.1, true, x.2.2.2.2))
   (bindO (α := ((List UInt8) × Int × Bool × List (Int × Int × List UInt8)) ⊕ ((List UInt8) × Int × Bool × List (Int × Int × List UInt8))) (branch x.2.2.2.1
      (some (.inl x.2))
      (bindO (F51 K (([45] : List UInt8), x.2)) fun v0 =>
      branch v0.1
       (bindO (F30i (w64 (x.1 + 1), v0.2)) fun v1 =>
       bindO (F34 K (4, 0, [], v1)) fun v2 =>
       some (.inl v2))
       (bindO (F51 K (([126] : List UInt8), v0.2)) fun v3 =>
       branch v3.1
        (bindO (F30i (w64 (x.1 + 1), v3.2)) fun v4 =>
        bindO (F34 K (5, 0, [], v4)) fun v5 =>
        some (.inl v5))
        (bindO (α := Int × Bool × (List UInt8) × Int × Bool × List (Int × Int × List UInt8)) (bindO (F51 K (([104, 105, 103, 104, 40] : List UInt8), v3.2)) fun v6 =>
          branch v6.1
           (some (x.1, true, v6.2))
           (bindO (F51 K (([108, 111, 119, 40] : List UInt8), v6.2)) fun v7 =>
           some (x.1, v7))) fun v8 =>
        branch v8.2.1
         (bindO (α := Int × Int × (List UInt8) × Int × Bool × List (Int × Int × List UInt8)) (nth v8.2.2.1 (w64 (v8.2.2.2.1 - 2)) fun v9 =>
           branch (decide ((v9.toNat : Int) = 104))
            (some (v8.1, 6, v8.2.2))
            (some (v8.1, 7, v8.2.2))) fun v10 =>
         bindO (F18i (1, w64 (v10.1 + 1), v10.2.2)) fun v11 =>
         branch v11.2.2.1
          (bindO (F34 K (v10.2.1, 0, [], v11.1, v11.2.1, true, v11.2.2.2)) fun v12 =>
          some (.inl v12))
          (bindO (F51 K (([41] : List UInt8), v11)) fun v13 =>
          bindO (F34 K (v10.2.1, 0, [], v13.2.1, v13.2.2.1, !v13.1, v13.2.2.2.2)) fun v14 =>
          some (.inl v14)))
         (bindO (F51 K (([98, 97, 110, 107, 40] : List UInt8), v8.2.2)) fun v15 =>
         branch v15.1
          (bindO (F52 K v15.2) fun v16 =>
          branch v16.2.2.2.1
           (bindO (F34 K (3, 0, v16.1, v16.2.1, v16.2.2.1, true, v16.2.2.2.2)) fun v17 =>
           some (.inl v17))
           (bindO (F53 K v16.1) fun v18 =>
           branch (!v18)
            (bindO (F34 K (3, 0, v16.1, v16.2.1, v16.2.2.1, true, v16.2.2.2.2)) fun v19 =>
            some (.inl v19))
            (bindO (F51 K (([41] : List UInt8), v16.2)) fun v20 =>
            bindO (F34 K (3, 0, v16.1, v20.2.1, v20.2.2.1, !v20.1, v20.2.2.2.2)) fun v21 =>
            some (.inl v21))))
          (bindO (F51 K (([40] : List UInt8), v15.2)) fun v22 =>
          branch v22.1
           (bindO (F18i (1, w64 (v8.1 + 1), v22.2)) fun v23 =>
           branch v23.2.2.1
            (some (.inl (v23.1, v23.2.1, true, v23.2.2.2)))
            (bindO (F51 K (([41] : List UInt8), v23)) fun v24 =>
            some (.inl (v24.2.1, v24.2.2.1, !v24.1, v24.2.2.2.2))))
           (some (.inr v22.2)))))))) fun v25 =>
   csO v25
    (fun v26 => some v26)
    (fun v27 => bindO (α := (List UInt8) × (List UInt8) × Int × Bool × List (Int × Int × List UInt8)) (bindO (F51 K (([36] : List UInt8), v27)) fun v28 =>
      branch v28.1
       (some (([36] : List UInt8), v28.2))
       (bindO (F51 K (([37] : List UInt8), v28.2)) fun v29 =>
       branch v29.1
        (some (([37] : List UInt8), v29.2))
        (some ([], v29.2)))) fun v30 =>
    bindO (F52 K v30.2) fun v31 =>
    guard (decide ((v30.1.length + v31.1.length) ≤ 9223372036854775807)) <|
    bindO (F54 K (v30.1 ++ v31.1)) fun v32 =>
    branch v32.2
     (bindO (F34 K (1, v32.1, [], v31.2)) fun v33 =>
     some v33)
     (bindO (α := (List UInt8) × Bool × (List UInt8) × Int × Bool × List (Int × Int × List UInt8)) (branch (decide (v30.1 = []))
        (bindO (F53 K v31.1) fun v34 =>
        some (v31.1, v34, v31.2))
        (some (v31.1, false, v31.2))) fun v35 =>
     branch v35.2.1
      (bindO (F34 K (2, 0, v35.1, v35.2.2)) fun v36 =>
      some v36)
      (some (v35.2.2.1, v35.2.2.2.1, true, v35.2.2.2.2.2)))))
theorem s30 (F30i : (Int × List UInt8 × Int × Bool × List (Int × Int × List UInt8)) → Option (List UInt8 × Int × Bool × List (Int × Int × List UInt8))) (F18i : (Int × Int × List UInt8 × Int × Bool × List (Int × Int × List UInt8)) → Option (List UInt8 × Int × Bool × List (Int × Int × List UInt8))) (K : Nat) (h30 : CtOk prog 30 (ct30s F30i)) (h18 : CtOk prog 18 (ct18s F18i)) : CtOk prog 30 (ct30s (F30b F30i F18i K)) :=
  con_mk (Y := Y) (L := [(53, ct53 K), (54, ct54 K), (51, ct51 K), (34, ct34 K), (52, ct52 K), (18, ct18s F18i), (30, ct30s F30i)]) (K := K) (an := (.seq (.seq .no (.cond .no .no)) (.seqJ [(1000000, ⟨(.l (.ptr 0 0 0) :: ru 147 []), [(0, ⟨4, false, .mix (some 41) [[.l (.v .s), .l (.v (.i .i64)), .l (.all 1), .l (.v .b)]]⟩), (1, ⟨3, true, .row (.c (.i .i64) (.c (.i .i64) .s))⟩)]⟩)] true (.blk (.seq .no (.cond .no (.seq .no (.cond (.seq .no .no) (.seq .no (.cond (.seq .no .no) (.seqJ [(1000000, ⟨(.l (.ptr 0 0 0) :: .l (.v (.i .i64)) :: ru 36 (.l (.v .b) :: ru 109 [])), [(0, ⟨4, false, .mix (some 41) [[.l (.v .s), .l (.v (.i .i64)), .l (.all 1), .l (.v .b)]]⟩), (1, ⟨3, true, .row (.c (.i .i64) (.c (.i .i64) .s))⟩)]⟩)] false (.seq .no .no) (.cond (.seq .no (.seqJ [(1000000, ⟨(.l (.ptr 0 0 0) :: .l (.v (.i .i64)) :: ru 2 (.l (.v (.i .i64)) :: ru 143 [])), [(0, ⟨4, false, .mix (some 41) [[.l (.v .s), .l (.v (.i .i64)), .l (.all 1), .l (.v .b)]]⟩), (1, ⟨3, true, .row (.c (.i .i64) (.c (.i .i64) .s))⟩)]⟩)] false (.seq .no .no) (.seq .no (.seq .no .no)))) (.seq .no (.cond (.seq .no (.seq .no .no)) (.seq .no (.cond (.seq .no .no) .no))))))))))))) (.seq .no (.seqJ [(1000000, ⟨(.l (.ptr 0 0 0) :: ru 5 (.l (.v .s) :: ru 141 [])), [(0, ⟨4, false, .mix (some 41) [[.l (.v .s), .l (.v (.i .i64)), .l (.all 1), .l (.v .b)]]⟩), (1, ⟨3, true, .row (.c (.i .i64) (.c (.i .i64) .s))⟩)]⟩)] false (.seq .no (.cond .no (.seq .no .no))) (.seq .no (.seq .no (.blk (.seq .no (.cond .no (.seqJ [(1000000, ⟨(.l (.ptr 0 0 0) :: ru 6 (.l (.v .s) :: ru 130 (.l (.v .b) :: ru 9 []))), [(0, ⟨4, false, .mix (some 41) [[.l (.v .s), .l (.v (.i .i64)), .l (.all 1), .l (.v .b)]]⟩), (1, ⟨3, true, .row (.c (.i .i64) (.c (.i .i64) .s))⟩)]⟩)] false .no .no))))))))))) func30 mixed (ctabOk_cons (c53 K) (ctabOk_cons (c54 K) (ctabOk_cons (c51 K) (ctabOk_cons (c34 K) (ctabOk_cons (c52 K) (ctabOk_cons h18 (ctabOk_cons h30 ctabOk_nil))))))) (by kernel_rfl) fun x => by kernel_rfl
-- (*loop.example/g00460/spec.l2P).level
def F18b_b0 (F30i : (Int × List UInt8 × Int × Bool × List (Int × Int × List UInt8)) → Option (List UInt8 × Int × Bool × List (Int × Int × List UInt8))) (F18i : (Int × Int × List UInt8 × Int × Bool × List (Int × Int × List UInt8)) → Option (List UInt8 × Int × Bool × List (Int × Int × List UInt8))) (K : Nat) (x : Int × Int × (List UInt8) × Int × Bool × List (Int × Int × List UInt8)) : Option ((Int × Int × (List UInt8) × Int × Bool × List (Int × Int × List UInt8)) ⊕ (((List UInt8) × Int × Bool × List (Int × Int × List UInt8)) ⊕ ((List UInt8) × Int × Bool × List (Int × Int × List UInt8)))) :=
  branch (!x.2.2.2.2.1)
   (bindO (F31 K x.2.2) fun v0 =>
   bindO (α := ((List UInt8) × Int × Bool × List (Int × Int × List UInt8)) ⊕ (Int × Int × Int × (List UInt8) × Int × Bool × List (Int × Int × List UInt8))) (branch (decide (v0.1 = 0))
      (some (.inl v0.2))
      (bindO (F32 K v0.1) fun v1 =>
      branch (decide (v1 < x.1))
       (some (.inl v0.2))
       (some (.inr (x.1, x.2.1, v0))))) fun v2 =>
   csO v2
    (fun v3 => some (.inr (.inl v3)))
    (fun v4 => bindO (F33 K ()) fun v5 =>
    nth v5 v4.2.2.1 fun v6 =>
    bindO (F32 K v4.2.2.1) fun v7 =>
    bindO (F18i (w64 (v7 + 1), w64 (v4.2.1 + 1), v4.2.2.2.1, w64 (v4.2.2.2.2.1 + (v6.length : Int)), v4.2.2.2.2.2)) fun v8 =>
    bindO (F34 K (v4.2.2.1, 0, [], v8)) fun v9 =>
    some (.inl (v4.1, v4.2.1, v9))))
   (some (.inr (.inr x.2.2)))
def F18b (F30i : (Int × List UInt8 × Int × Bool × List (Int × Int × List UInt8)) → Option (List UInt8 × Int × Bool × List (Int × Int × List UInt8))) (F18i : (Int × Int × List UInt8 × Int × Bool × List (Int × Int × List UInt8)) → Option (List UInt8 × Int × Bool × List (Int × Int × List UInt8))) (K : Nat) (x : Int × Int × (List UInt8) × Int × Bool × List (Int × Int × List UInt8)) : Option ((List UInt8) × Int × Bool × List (Int × Int × List UInt8)) :=
  bindO (F30i x.2) fun v0 =>
  bindO (iter K (F18b_b0 F30i F18i K) (x.1, x.2.1, v0)) fun v1 =>
  csO v1
   (fun v2 => some v2)
   (fun v3 => some v3)
theorem s18 (F30i : (Int × List UInt8 × Int × Bool × List (Int × Int × List UInt8)) → Option (List UInt8 × Int × Bool × List (Int × Int × List UInt8))) (F18i : (Int × Int × List UInt8 × Int × Bool × List (Int × Int × List UInt8)) → Option (List UInt8 × Int × Bool × List (Int × Int × List UInt8))) (K : Nat) (h30 : CtOk prog 30 (ct30s F30i)) (h18 : CtOk prog 18 (ct18s F18i)) : CtOk prog 18 (ct18s (F18b F30i F18i K)) :=
  con_mk (Y := Y) (L := [(33, ct33 K), (32, ct32 K), (31, ct31 K), (34, ct34 K), (18, ct18s F18i), (30, ct30s F30i)]) (K := K) (an := (.seq .no (.blk (.loop [] ⟨(.l (.ptr 0 0 0) :: .l (.v (.i .i64)) :: .l (.v (.i .i64)) :: ru 45 []), [(0, ⟨4, false, .mix (some 41) [[.l (.v .s), .l (.v (.i .i64)), .l (.all 1), .l (.v .b)]]⟩), (1, ⟨3, true, .row (.c (.i .i64) (.c (.i .i64) .s))⟩)]⟩ [(0, ⟨(ru 48 []), [(0, ⟨4, false, .mix (some 41) [[.l (.v .s), .l (.v (.i .i64)), .l (.all 1), .l (.v .b)]]⟩), (1, ⟨3, true, .row (.c (.i .i64) (.c (.i .i64) .s))⟩)]⟩)] true (.seq (.seq .no .no) (.blk (.seq .no (.seqJ [(1000000, ⟨(.l (.ptr 0 0 0) :: .l (.v (.i .i64)) :: .l (.v (.i .i64)) :: ru 3 (.l (.v (.i .i64)) :: ru 41 [])), [(0, ⟨4, false, .mix (some 41) [[.l (.v .s), .l (.v (.i .i64)), .l (.all 1), .l (.v .b)]]⟩), (1, ⟨3, true, .row (.c (.i .i64) (.c (.i .i64) .s))⟩)]⟩)] true (.seq .no .no) (.seq .no .no))))))))) func18 mixed (ctabOk_cons (c33 K) (ctabOk_cons (c32 K) (ctabOk_cons (c31 K) (ctabOk_cons (c34 K) (ctabOk_cons h18 (ctabOk_cons h30 ctabOk_nil)))))) (by kernel_rfl) fun x => by kernel_rfl
def spr (K R : Nat) : ((Int × List UInt8 × Int × Bool × List (Int × Int × List UInt8)) → Option (List UInt8 × Int × Bool × List (Int × Int × List UInt8))) × ((Int × Int × List UInt8 × Int × Bool × List (Int × Int × List UInt8)) → Option (List UInt8 × Int × Bool × List (Int × Int × List UInt8))) := Nat.rec (motive := fun _ => ((Int × List UInt8 × Int × Bool × List (Int × Int × List UInt8)) → Option (List UInt8 × Int × Bool × List (Int × Int × List UInt8))) × ((Int × Int × List UInt8 × Int × Bool × List (Int × Int × List UInt8)) → Option (List UInt8 × Int × Bool × List (Int × Int × List UInt8)))) ((fun _ => none, fun _ => none)) (fun _ ih => (F30b (ih.1) (ih.2) K, F18b (ih.1) (ih.2) K)) R
def R30 (K R : Nat) : (Int × List UInt8 × Int × Bool × List (Int × Int × List UInt8)) → Option (List UInt8 × Int × Bool × List (Int × Int × List UInt8)) := (spr K R).1
def R18 (K R : Nat) : (Int × Int × List UInt8 × Int × Bool × List (Int × Int × List UInt8)) → Option (List UInt8 × Int × Bool × List (Int × Int × List UInt8)) := (spr K R).2
theorem spr_ok (K : Nat) : ∀ R : Nat, CtOk prog 30 (ct30s (R30 K R)) ∧ CtOk prog 18 (ct18s (R18 K R))
  | 0 => ⟨(show CtOk prog 30 (ct30s fun _ => none) from ct_none), (show CtOk prog 18 (ct18s fun _ => none) from ct_none)⟩
  | R + 1 => by
    have ih := spr_ok K R
    exact ⟨s30 (R30 K R) (R18 K R) K ih.1 ih.2, s18 (R30 K R) (R18 K R) K ih.1 ih.2⟩
def F30 (K : Nat) (x : Int × List UInt8 × Int × Bool × List (Int × Int × List UInt8)) : Option (List UInt8 × Int × Bool × List (Int × Int × List UInt8)) := R30 K K x
def ct30 (K : Nat) : Ct := ⟨[.l (.ptr 0 0 0), .l (.v (.i .i64))], [⟨4, false, .mix (some 41) [[.l (.v .s), .l (.v (.i .i64)), .l (.all 1), .l (.v .b)]]⟩, ⟨3, true, .row (.c (.i .i64) (.c (.i .i64) .s))⟩], [], [⟨4, false, .mix (some 41) [[.l (.v .s), .l (.v (.i .i64)), .l (.all 1), .l (.v .b)]]⟩, ⟨3, true, .row (.c (.i .i64) (.c (.i .i64) .s))⟩], [], F30 K⟩
def F18 (K : Nat) (x : Int × Int × List UInt8 × Int × Bool × List (Int × Int × List UInt8)) : Option (List UInt8 × Int × Bool × List (Int × Int × List UInt8)) := R18 K K x
def ct18 (K : Nat) : Ct := ⟨[.l (.ptr 0 0 0), .l (.v (.i .i64)), .l (.v (.i .i64))], [⟨4, false, .mix (some 41) [[.l (.v .s), .l (.v (.i .i64)), .l (.all 1), .l (.v .b)]]⟩, ⟨3, true, .row (.c (.i .i64) (.c (.i .i64) .s))⟩], [], [⟨4, false, .mix (some 41) [[.l (.v .s), .l (.v (.i .i64)), .l (.all 1), .l (.v .b)]]⟩, ⟨3, true, .row (.c (.i .i64) (.c (.i .i64) .s))⟩], [], F18 K⟩
theorem c18 (K : Nat) : CtOk prog 18 (ct18 K) := (spr_ok K K).2
def ct57s (F : (Int × List UInt8 × Int × Bool × List (Int × Int × List UInt8)) → Option (List UInt8 × Int × Bool × List (Int × Int × List UInt8))) : Ct := ⟨[.l (.ptr 0 0 0), .l (.v (.i .i64))], [⟨4, false, .mix (some 45) [[.l (.v .s), .l (.v (.i .i64)), .l (.all 1), .l (.v .b)]]⟩, ⟨3, true, .row (.c (.i .i64) (.c (.i .i64) .s))⟩], [], [⟨4, false, .mix (some 45) [[.l (.v .s), .l (.v (.i .i64)), .l (.all 1), .l (.v .b)]]⟩, ⟨3, true, .row (.c (.i .i64) (.c (.i .i64) .s))⟩], [], F⟩
def ct38s (F : (Int × List UInt8 × Int × Bool × List (Int × Int × List UInt8)) → Option (List UInt8 × Int × Bool × List (Int × Int × List UInt8))) : Ct := ⟨[.l (.ptr 0 0 0), .l (.v (.i .i64))], [⟨4, false, .mix (some 45) [[.l (.v .s), .l (.v (.i .i64)), .l (.all 1), .l (.v .b)]]⟩, ⟨3, true, .row (.c (.i .i64) (.c (.i .i64) .s))⟩], [], [⟨4, false, .mix (some 45) [[.l (.v .s), .l (.v (.i .i64)), .l (.all 1), .l (.v .b)]]⟩, ⟨3, true, .row (.c (.i .i64) (.c (.i .i64) .s))⟩], [], F⟩
def ct20s (F : (Int × Int × List UInt8 × Int × Bool × List (Int × Int × List UInt8)) → Option (List UInt8 × Int × Bool × List (Int × Int × List UInt8))) : Ct := ⟨[.l (.ptr 0 0 0), .l (.v (.i .i64)), .l (.v (.i .i64))], [⟨4, false, .mix (some 45) [[.l (.v .s), .l (.v (.i .i64)), .l (.all 1), .l (.v .b)]]⟩, ⟨3, true, .row (.c (.i .i64) (.c (.i .i64) .s))⟩], [], [⟨4, false, .mix (some 45) [[.l (.v .s), .l (.v (.i .i64)), .l (.all 1), .l (.v .b)]]⟩, ⟨3, true, .row (.c (.i .i64) (.c (.i .i64) .s))⟩], [], F⟩
-- (*loop.example/g00460/impl.formula).word
def F57b (F57i : (Int × List UInt8 × Int × Bool × List (Int × Int × List UInt8)) → Option (List UInt8 × Int × Bool × List (Int × Int × List UInt8))) (F38i : (Int × List UInt8 × Int × Bool × List (Int × Int × List UInt8)) → Option (List UInt8 × Int × Bool × List (Int × Int × List UInt8))) (F20i : (Int × Int × List UInt8 × Int × Bool × List (Int × Int × List UInt8)) → Option (List UInt8 × Int × Bool × List (Int × Int × List UInt8))) (K : Nat) (x : Int × (List UInt8) × Int × Bool × List (Int × Int × List UInt8)) : Option ((List UInt8) × Int × Bool × List (Int × Int × List UInt8)) :=
  bindO (α := Int × (List UInt8) × (List UInt8) × Int × Bool × List (Int × Int × List UInt8)) (bindO (F39 K (([36] : List UInt8), x.2)) fun v0 =>
    branch v0.1
     (some (x.1, ([36] : List UInt8), v0.2))
     (bindO (F39 K (([37] : List UInt8), v0.2)) fun v1 =>
     branch v1.1
      (some (x.1, ([37] : List UInt8), v1.2))
      (some (x.1, [], v1.2)))) fun v2 =>
  bindO (F69 K v2.2.2) fun v3 =>
  guard (decide ((v2.2.1.length + v3.1.length) ≤ 9223372036854775807)) <|
  bindO (F70 K (v2.2.1 ++ v3.1)) fun v4 =>
  branch v4.2
   (bindO (F41 K (1, v4.1, [], v3.2)) fun v5 =>
   some v5)
   (bindO (F45 K (v2.2.1 ++ v3.1)) fun v6 =>
   branch (!v6)
    (some (v3.2.1, v3.2.2.1, true, v3.2.2.2.2))
    (bindO (α := Int × (List UInt8) × Bool × (List UInt8) × Int × Bool × List (Int × Int × List UInt8)) (branch (decide ((v2.2.1 ++ v3.1) = ([104, 105, 103, 104] : List UInt8)))
       (bindO (F39 K (([40] : List UInt8), v3.2)) fun v7 =>
       some (v2.1, v2.2.1 ++ v3.1, v7))
       (branch (decide ((v2.2.1 ++ v3.1) = ([108, 111, 119] : List UInt8)))
        (bindO (F39 K (([40] : List UInt8), v3.2)) fun v8 =>
        some (v2.1, v2.2.1 ++ v3.1, v8))
        (branch (decide ((v2.2.1 ++ v3.1) = ([98, 97, 110, 107] : List UInt8)))
         (bindO (F39 K (([40] : List UInt8), v3.2)) fun v9 =>
         some (v2.1, v2.2.1 ++ v3.1, v9))
         (some (v2.1, v2.2.1 ++ v3.1, false, v3.2))))) fun v10 =>
    branch v10.2.2.1
     (branch (decide (v10.2.1 = ([98, 97, 110, 107] : List UInt8)))
      (bindO (F69 K v10.2.2.2) fun v11 =>
      branch v11.2.2.2.1
       (bindO (F41 K (3, 0, v11.1, v11.2.1, v11.2.2.1, true, v11.2.2.2.2)) fun v12 =>
       bindO (F56 K (([41] : List UInt8), v12)) fun v13 =>
       some v13)
       (bindO (F45 K v11.1) fun v14 =>
       bindO (F41 K (3, 0, v11.1, v11.2.1, v11.2.2.1, !v14, v11.2.2.2.2)) fun v15 =>
       bindO (F56 K (([41] : List UInt8), v15)) fun v16 =>
       some v16))
      (bindO (F20i (0, w64 (v10.1 + 1), v10.2.2.2)) fun v17 =>
      branch (decide (v10.2.1 = ([108, 111, 119] : List UInt8)))
       (bindO (F41 K (7, 0, [], v17)) fun v18 =>
       bindO (F56 K (([41] : List UInt8), v18)) fun v19 =>
       some v19)
       (bindO (F41 K (6, 0, [], v17)) fun v20 =>
       bindO (F56 K (([41] : List UInt8), v20)) fun v21 =>
       some v21)))
     (bindO (F41 K (2, 0, v10.2.1, v10.2.2.2)) fun v22 =>
     some v22)))
theorem s57 (F57i : (Int × List UInt8 × Int × Bool × List (Int × Int × List UInt8)) → Option (List UInt8 × Int × Bool × List (Int × Int × List UInt8))) (F38i : (Int × List UInt8 × Int × Bool × List (Int × Int × List UInt8)) → Option (List UInt8 × Int × Bool × List (Int × Int × List UInt8))) (F20i : (Int × Int × List UInt8 × Int × Bool × List (Int × Int × List UInt8)) → Option (List UInt8 × Int × Bool × List (Int × Int × List UInt8))) (K : Nat) (h57 : CtOk prog 57 (ct57s F57i)) (h38 : CtOk prog 38 (ct38s F38i)) (h20 : CtOk prog 20 (ct20s F20i)) : CtOk prog 57 (ct57s (F57b F57i F38i F20i K)) :=
  con_mk (Y := Y) (L := [(70, ct70 K), (45, ct45 K), (39, ct39 K), (69, ct69 K), (56, ct56 K), (41, ct41 K), (20, ct20s F20i)]) (K := K) (an := (.seq .no (.seqJ [(1000000, ⟨(.l (.ptr 0 0 0) :: .l (.v (.i .i64)) :: ru 2 (.l (.v .s) :: ru 79 [])), [(0, ⟨4, false, .mix (some 45) [[.l (.v .s), .l (.v (.i .i64)), .l (.all 1), .l (.v .b)]]⟩), (1, ⟨3, true, .row (.c (.i .i64) (.c (.i .i64) .s))⟩)]⟩)] false (.seq .no (.cond .no (.seq .no .no))) (.seq .no (.seq (.seq .no (.seq .no (.cond .no .no))) (.seq (.seq .no (.cond .no .no)) (.seq (.seqJ [(1000000, ⟨(.l (.ptr 0 0 0) :: .l (.v (.i .i64)) :: ru 3 (.l (.v .s) :: ru 41 (.l (.v .b) :: ru 36 []))), [(0, ⟨4, false, .mix (some 45) [[.l (.v .s), .l (.v (.i .i64)), .l (.all 1), .l (.v .b)]]⟩), (1, ⟨3, true, .row (.c (.i .i64) (.c (.i .i64) .s))⟩)]⟩)] false .no (.cond (.seq (.seq .no (.cond (.seq .no .no) (.seq .no (.seq .no (.seq (.seq .no .no) .no))))) .no) .no)) .no))))))) func57 mixed (ctabOk_cons (c70 K) (ctabOk_cons (c45 K) (ctabOk_cons (c39 K) (ctabOk_cons (c69 K) (ctabOk_cons (c56 K) (ctabOk_cons (c41 K) (ctabOk_cons h20 ctabOk_nil))))))) (by kernel_rfl) fun x => by kernel_rfl
-- (*loop.example/g00460/impl.formula).value
def F38b (F57i : (Int × List UInt8 × Int × Bool × List (Int × Int × List UInt8)) → Option (List UInt8 × Int × Bool × List (Int × Int × List UInt8))) (F38i : (Int × List UInt8 × Int × Bool × List (Int × Int × List UInt8)) → Option (List UInt8 × Int × Bool × List (Int × Int × List UInt8))) (F20i : (Int × Int × List UInt8 × Int × Bool × List (Int × Int × List UInt8)) → Option (List UInt8 × Int × Bool × List (Int × Int × List UInt8))) (K : Nat) (x : Int × (List UInt8) × Int × Bool × List (Int × Int × List UInt8)) : Option ((List UInt8) × Int × Bool × List (Int × Int × List UInt8)) :=
  bindO (α := ((List UInt8) × Int × Bool × List (Int × Int × List UInt8)) ⊕ (Int × (List UInt8) × Int × Bool × List (Int × Int × List UInt8))) (bindO (α := Int × Bool × (List UInt8) × Int × Bool × List (Int × Int × List UInt8)) (branch x.2.2.2.1
       (some (x.1, true, x.2))
       (some (x.1, decide (30 < x.1), x.2))) fun v0 =>
    branch v0.2.1
     (some (.inl (v0.2.2.1, v0.2.2.2.1, true, v0.2.2.2.2.2)))
     (some (.inr (v0.1, v0.2.2)))) fun v1 =>
  csO v1
   (fun v2 => some v2)
   (fun v3 => bindO (F39 K (([45] : List UInt8), v3.2)) fun v4 =>
   branch v4.1
    (bindO (F38i (w64 (v3.1 + 1), v4.2)) fun v5 =>
    bindO (F41 K (4, 0, [], v5)) fun v6 =>
    some v6)
    (bindO (F39 K (([126] : List UInt8), v4.2)) fun v7 =>
    branch v7.1
     (bindO (F38i (w64 (v3.1 + 1), v7.2)) fun v8 =>
     bindO (F41 K (5, 0, [], v8)) fun v9 =>
     some v9)
     (bindO (F39 K (([40] : List UInt8), v7.2)) fun v10 =>
     branch v10.1
      (bindO (F20i (0, w64 (v3.1 + 1), v10.2)) fun v11 =>
      bindO (F56 K (([41] : List UInt8), v11)) fun v12 =>
      some v12)
      (bindO (F57i (v3.1, v10.2)) fun v13 =>
      some v13))))
theorem s38 (F57i : (Int × List UInt8 × Int × Bool × List (Int × Int × List UInt8)) → Option (List UInt8 × Int × Bool × List (Int × Int × List UInt8))) (F38i : (Int × List UInt8 × Int × Bool × List (Int × Int × List UInt8)) → Option (List UInt8 × Int × Bool × List (Int × Int × List UInt8))) (F20i : (Int × Int × List UInt8 × Int × Bool × List (Int × Int × List UInt8)) → Option (List UInt8 × Int × Bool × List (Int × Int × List UInt8))) (K : Nat) (h57 : CtOk prog 57 (ct57s F57i)) (h38 : CtOk prog 38 (ct38s F38i)) (h20 : CtOk prog 20 (ct20s F20i)) : CtOk prog 38 (ct38s (F38b F57i F38i F20i K)) :=
  con_mk (Y := Y) (L := [(39, ct39 K), (56, ct56 K), (41, ct41 K), (20, ct20s F20i), (38, ct38s F38i), (57, ct57s F57i)]) (K := K) (an := (.seqJ [(1000000, ⟨(.l (.ptr 0 0 0) :: .l (.v (.i .i64)) :: ru 45 []), [(0, ⟨4, false, .mix (some 45) [[.l (.v .s), .l (.v (.i .i64)), .l (.all 1), .l (.v .b)]]⟩), (1, ⟨3, true, .row (.c (.i .i64) (.c (.i .i64) .s))⟩)]⟩)] true (.seqJ [(1000000, ⟨(.l (.ptr 0 0 0) :: .l (.v (.i .i64)) :: ru 9 (.l (.v .b) :: ru 35 [])), [(0, ⟨4, false, .mix (some 45) [[.l (.v .s), .l (.v (.i .i64)), .l (.all 1), .l (.v .b)]]⟩), (1, ⟨3, true, .row (.c (.i .i64) (.c (.i .i64) .s))⟩)]⟩)] false .no (.cond .no .no)) (.seq (.blk (.seq .no (.cond (.seq .no .no) (.seq .no (.cond (.seq .no .no) (.seq .no (.cond (.seq .no .no) .no))))))) .no))) func38 mixed (ctabOk_cons (c39 K) (ctabOk_cons (c56 K) (ctabOk_cons (c41 K) (ctabOk_cons h20 (ctabOk_cons h38 (ctabOk_cons h57 ctabOk_nil)))))) (by kernel_rfl) fun x => by kernel_rfl
-- (*loop.example/g00460/impl.formula).level
def F20b_b1 (F57i : (Int × List UInt8 × Int × Bool × List (Int × Int × List UInt8)) → Option (List UInt8 × Int × Bool × List (Int × Int × List UInt8))) (F38i : (Int × List UInt8 × Int × Bool × List (Int × Int × List UInt8)) → Option (List UInt8 × Int × Bool × List (Int × Int × List UInt8))) (F20i : (Int × Int × List UInt8 × Int × Bool × List (Int × Int × List UInt8)) → Option (List UInt8 × Int × Bool × List (Int × Int × List UInt8))) (K : Nat) (x : Int × Int × Int × (List Int) × Int × Int × (List UInt8) × Int × Bool × List (Int × Int × List UInt8)) : Option ((Int × Int × Int × (List Int) × Int × Int × (List UInt8) × Int × Bool × List (Int × Int × List UInt8)) ⊕ (Int × Int × Int × (List UInt8) × Int × Bool × List (Int × Int × List UInt8))) :=
  branch (decide (x.2.2.2.2.2.1 < x.2.2.2.2.1))
   (nth x.2.2.2.1 x.2.2.2.2.2.1 fun v0 =>
   bindO (F40 K ()) fun v1 =>
   nth v1 (w64 (v0 - 4)) fun v2 =>
   bindO (F39 K (v2, x.2.2.2.2.2.2)) fun v3 =>
   branch v3.1
    (some (.inr (x.1, x.2.1, v0, v3.2)))
    (some (.inl (x.1, x.2.1, x.2.2.1, x.2.2.2.1, x.2.2.2.2.1, w64 (x.2.2.2.2.2.1 + 1), v3.2))))
   (some (.inr (x.1, x.2.1, x.2.2.1, x.2.2.2.2.2.2)))
def F20b_b0 (F57i : (Int × List UInt8 × Int × Bool × List (Int × Int × List UInt8)) → Option (List UInt8 × Int × Bool × List (Int × Int × List UInt8))) (F38i : (Int × List UInt8 × Int × Bool × List (Int × Int × List UInt8)) → Option (List UInt8 × Int × Bool × List (Int × Int × List UInt8))) (F20i : (Int × Int × List UInt8 × Int × Bool × List (Int × Int × List UInt8)) → Option (List UInt8 × Int × Bool × List (Int × Int × List UInt8))) (K : Nat) (x : Int × Int × (List UInt8) × Int × Bool × List (Int × Int × List UInt8)) : Option ((Int × Int × (List UInt8) × Int × Bool × List (Int × Int × List UInt8)) ⊕ (((List UInt8) × Int × Bool × List (Int × Int × List UInt8)) ⊕ ((List UInt8) × Int × Bool × List (Int × Int × List UInt8)))) :=
  branch (!x.2.2.2.2.1)
   (bindO (F37 K ()) fun v0 =>
   nth v0 x.1 fun v1 =>
   bindO (iter K (F20b_b1 F57i F38i F20i K) (x.1, x.2.1, 0, v1, (v1.length : Int), 0, x.2.2)) fun v2 =>
   branch (decide (v2.2.2.1 = 0))
    (some (.inr (.inl v2.2.2.2)))
    (bindO (F20i (w64 (v2.1 + 1), w64 (v2.2.1 + 1), v2.2.2.2)) fun v3 =>
    bindO (F41 K (v2.2.2.1, 0, [], v3)) fun v4 =>
    some (.inl (v2.1, v2.2.1, v4))))
   (some (.inr (.inr x.2.2)))
def F20b (F57i : (Int × List UInt8 × Int × Bool × List (Int × Int × List UInt8)) → Option (List UInt8 × Int × Bool × List (Int × Int × List UInt8))) (F38i : (Int × List UInt8 × Int × Bool × List (Int × Int × List UInt8)) → Option (List UInt8 × Int × Bool × List (Int × Int × List UInt8))) (F20i : (Int × Int × List UInt8 × Int × Bool × List (Int × Int × List UInt8)) → Option (List UInt8 × Int × Bool × List (Int × Int × List UInt8))) (K : Nat) (x : Int × Int × (List UInt8) × Int × Bool × List (Int × Int × List UInt8)) : Option ((List UInt8) × Int × Bool × List (Int × Int × List UInt8)) :=
  bindO (F37 K ()) fun v0 =>
  branch (decide (x.1 = (v0.length : Int)))
   (bindO (F38i x.2) fun v1 =>
   some v1)
   (bindO (F20i (w64 (x.1 + 1), x.2)) fun v2 =>
   bindO (iter K (F20b_b0 F57i F38i F20i K) (x.1, x.2.1, v2)) fun v3 =>
   csO v3
    (fun v4 => some v4)
    (fun v5 => some v5))
theorem s20 (F57i : (Int × List UInt8 × Int × Bool × List (Int × Int × List UInt8)) → Option (List UInt8 × Int × Bool × List (Int × Int × List UInt8))) (F38i : (Int × List UInt8 × Int × Bool × List (Int × Int × List UInt8)) → Option (List UInt8 × Int × Bool × List (Int × Int × List UInt8))) (F20i : (Int × Int × List UInt8 × Int × Bool × List (Int × Int × List UInt8)) → Option (List UInt8 × Int × Bool × List (Int × Int × List UInt8))) (K : Nat) (h57 : CtOk prog 57 (ct57s F57i)) (h38 : CtOk prog 38 (ct38s F38i)) (h20 : CtOk prog 20 (ct20s F20i)) : CtOk prog 20 (ct20s (F20b F57i F38i F20i K)) :=
  con_mk (Y := Y) (L := [(37, ct37 K), (40, ct40 K), (39, ct39 K), (41, ct41 K), (20, ct20s F20i), (38, ct38s F38i)]) (K := K) (an := (.seq (.seq .no (.cond .no .no)) (.seq .no (.blk (.loop [] ⟨(.l (.ptr 0 0 0) :: .l (.v (.i .i64)) :: .l (.v (.i .i64)) :: ru 53 []), [(0, ⟨4, false, .mix (some 45) [[.l (.v .s), .l (.v (.i .i64)), .l (.all 1), .l (.v .b)]]⟩), (1, ⟨3, true, .row (.c (.i .i64) (.c (.i .i64) .s))⟩)]⟩ [(0, ⟨(ru 56 []), [(0, ⟨4, false, .mix (some 45) [[.l (.v .s), .l (.v (.i .i64)), .l (.all 1), .l (.v .b)]]⟩), (1, ⟨3, true, .row (.c (.i .i64) (.c (.i .i64) .s))⟩)]⟩)] true (.seq (.seq .no .no) (.blk (.seq .no (.seq (.seq .no (.blk (.loop [] ⟨(.l (.ptr 0 0 0) :: .l (.v (.i .i64)) :: .l (.v (.i .i64)) :: ru 3 (.l (.v (.i .i64)) :: ru 22 (.l (.v (.l (.i .i64))) :: .l (.v (.i .i64)) :: .l (.v (.i .i64)) :: ru 24 []))), [(0, ⟨4, false, .mix (some 45) [[.l (.v .s), .l (.v (.i .i64)), .l (.all 1), .l (.v .b)]]⟩), (1, ⟨3, true, .row (.c (.i .i64) (.c (.i .i64) .s))⟩)]⟩ [(2, ⟨(.l (.ptr 0 0 0) :: .l (.v (.i .i64)) :: .l (.v (.i .i64)) :: ru 3 (.l (.v (.i .i64)) :: ru 49 [])), [(0, ⟨4, false, .mix (some 45) [[.l (.v .s), .l (.v (.i .i64)), .l (.all 1), .l (.v .b)]]⟩), (1, ⟨3, true, .row (.c (.i .i64) (.c (.i .i64) .s))⟩)]⟩)] false (.seq .no (.seq .no (.seq (.blk (.seq .no (.seq .no (.cond .no .no)))) .no)))))) (.seq (.seq .no .no) .no)))))))))) func20 mixed (ctabOk_cons (c37 K) (ctabOk_cons (c40 K) (ctabOk_cons (c39 K) (ctabOk_cons (c41 K) (ctabOk_cons h20 (ctabOk_cons h38 ctabOk_nil)))))) (by kernel_rfl) fun x => by kernel_rfl
def imr (K R : Nat) : ((Int × List UInt8 × Int × Bool × List (Int × Int × List UInt8)) → Option (List UInt8 × Int × Bool × List (Int × Int × List UInt8))) × ((Int × List UInt8 × Int × Bool × List (Int × Int × List UInt8)) → Option (List UInt8 × Int × Bool × List (Int × Int × List UInt8))) × ((Int × Int × List UInt8 × Int × Bool × List (Int × Int × List UInt8)) → Option (List UInt8 × Int × Bool × List (Int × Int × List UInt8))) := Nat.rec (motive := fun _ => ((Int × List UInt8 × Int × Bool × List (Int × Int × List UInt8)) → Option (List UInt8 × Int × Bool × List (Int × Int × List UInt8))) × ((Int × List UInt8 × Int × Bool × List (Int × Int × List UInt8)) → Option (List UInt8 × Int × Bool × List (Int × Int × List UInt8))) × ((Int × Int × List UInt8 × Int × Bool × List (Int × Int × List UInt8)) → Option (List UInt8 × Int × Bool × List (Int × Int × List UInt8)))) ((fun _ => none, fun _ => none, fun _ => none)) (fun _ ih => (F57b (ih.1) (ih.2.1) (ih.2.2) K, F38b (ih.1) (ih.2.1) (ih.2.2) K, F20b (ih.1) (ih.2.1) (ih.2.2) K)) R
def R57 (K R : Nat) : (Int × List UInt8 × Int × Bool × List (Int × Int × List UInt8)) → Option (List UInt8 × Int × Bool × List (Int × Int × List UInt8)) := (imr K R).1
def R38 (K R : Nat) : (Int × List UInt8 × Int × Bool × List (Int × Int × List UInt8)) → Option (List UInt8 × Int × Bool × List (Int × Int × List UInt8)) := (imr K R).2.1
def R20 (K R : Nat) : (Int × Int × List UInt8 × Int × Bool × List (Int × Int × List UInt8)) → Option (List UInt8 × Int × Bool × List (Int × Int × List UInt8)) := (imr K R).2.2
theorem imr_ok (K : Nat) : ∀ R : Nat, CtOk prog 57 (ct57s (R57 K R)) ∧ CtOk prog 38 (ct38s (R38 K R)) ∧ CtOk prog 20 (ct20s (R20 K R))
  | 0 => ⟨(show CtOk prog 57 (ct57s fun _ => none) from ct_none), (show CtOk prog 38 (ct38s fun _ => none) from ct_none), (show CtOk prog 20 (ct20s fun _ => none) from ct_none)⟩
  | R + 1 => by
    have ih := imr_ok K R
    exact ⟨s57 (R57 K R) (R38 K R) (R20 K R) K ih.1 ih.2.1 ih.2.2, s38 (R57 K R) (R38 K R) (R20 K R) K ih.1 ih.2.1 ih.2.2, s20 (R57 K R) (R38 K R) (R20 K R) K ih.1 ih.2.1 ih.2.2⟩
def F57 (K : Nat) (x : Int × List UInt8 × Int × Bool × List (Int × Int × List UInt8)) : Option (List UInt8 × Int × Bool × List (Int × Int × List UInt8)) := R57 K K x
def ct57 (K : Nat) : Ct := ⟨[.l (.ptr 0 0 0), .l (.v (.i .i64))], [⟨4, false, .mix (some 45) [[.l (.v .s), .l (.v (.i .i64)), .l (.all 1), .l (.v .b)]]⟩, ⟨3, true, .row (.c (.i .i64) (.c (.i .i64) .s))⟩], [], [⟨4, false, .mix (some 45) [[.l (.v .s), .l (.v (.i .i64)), .l (.all 1), .l (.v .b)]]⟩, ⟨3, true, .row (.c (.i .i64) (.c (.i .i64) .s))⟩], [], F57 K⟩
def F38 (K : Nat) (x : Int × List UInt8 × Int × Bool × List (Int × Int × List UInt8)) : Option (List UInt8 × Int × Bool × List (Int × Int × List UInt8)) := R38 K K x
def ct38 (K : Nat) : Ct := ⟨[.l (.ptr 0 0 0), .l (.v (.i .i64))], [⟨4, false, .mix (some 45) [[.l (.v .s), .l (.v (.i .i64)), .l (.all 1), .l (.v .b)]]⟩, ⟨3, true, .row (.c (.i .i64) (.c (.i .i64) .s))⟩], [], [⟨4, false, .mix (some 45) [[.l (.v .s), .l (.v (.i .i64)), .l (.all 1), .l (.v .b)]]⟩, ⟨3, true, .row (.c (.i .i64) (.c (.i .i64) .s))⟩], [], F38 K⟩
def F20 (K : Nat) (x : Int × Int × List UInt8 × Int × Bool × List (Int × Int × List UInt8)) : Option (List UInt8 × Int × Bool × List (Int × Int × List UInt8)) := R20 K K x
def ct20 (K : Nat) : Ct := ⟨[.l (.ptr 0 0 0), .l (.v (.i .i64)), .l (.v (.i .i64))], [⟨4, false, .mix (some 45) [[.l (.v .s), .l (.v (.i .i64)), .l (.all 1), .l (.v .b)]]⟩, ⟨3, true, .row (.c (.i .i64) (.c (.i .i64) .s))⟩], [], [⟨4, false, .mix (some 45) [[.l (.v .s), .l (.v (.i .i64)), .l (.all 1), .l (.v .b)]]⟩, ⟨3, true, .row (.c (.i .i64) (.c (.i .i64) .s))⟩], [], F20 K⟩
theorem c20 (K : Nat) : CtOk prog 20 (ct20 K) := (imr_ok K K).2.2
end Go.U.Tryd
