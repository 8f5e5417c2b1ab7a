/- A part of the proof. No condition. -/
import Derived.Test.YtclapampnmjmoaaGreatDoorVJa
set_option linter.unusedVariables false
set_option linter.unusedSimpArgs false
set_option linter.unusedSectionVars false
namespace Go.U.Tryz
open Go Go.U Go.Proofs Go.Proofs.Tryz
set_option maxRecDepth 100000
def ct105s (F : (Int × List UInt8 × Int × Bool × List (Int × Int × List UInt8)) → Option (List UInt8 × Int × Bool × List (Int × Int × List UInt8))) : Ct := ⟨[.l (.ptr 0 0 0), .l (.v (.i .i64))], [⟨4, false, .mix (some 109) [[.l (.v .s), .l (.v (.i .i64)), .l (.all 1), .l (.v .b)]]⟩, ⟨3, true, .row (.c (.i .i64) (.c (.i .i64) .s))⟩], [], [⟨4, false, .mix (some 109) [[.l (.v .s), .l (.v (.i .i64)), .l (.all 1), .l (.v .b)]]⟩, ⟨3, true, .row (.c (.i .i64) (.c (.i .i64) .s))⟩], [], F⟩
def ct91s (F : (Int × Int × List UInt8 × Int × Bool × List (Int × Int × List UInt8)) → Option (List UInt8 × Int × Bool × List (Int × Int × List UInt8))) : Ct := ⟨[.l (.ptr 0 0 0), .l (.v (.i .i64)), .l (.v (.i .i64))], [⟨4, false, .mix (some 109) [[.l (.v .s), .l (.v (.i .i64)), .l (.all 1), .l (.v .b)]]⟩, ⟨3, true, .row (.c (.i .i64) (.c (.i .i64) .s))⟩], [], [⟨4, false, .mix (some 109) [[.l (.v .s), .l (.v (.i .i64)), .l (.all 1), .l (.v .b)]]⟩, ⟨3, true, .row (.c (.i .i64) (.c (.i .i64) .s))⟩], [], F⟩
-- (*loop.example/g00460/spec.l2P).value
def F105b (F105i : (Int × List UInt8 × Int × Bool × List (Int × Int × List UInt8)) → Option (List UInt8 × Int × Bool × List (Int × Int × List UInt8))) (F91i : (Int × Int × List UInt8 × Int × Bool × List (Int × Int × List UInt8)) → Option (List UInt8 × Int × Bool × List (Int × Int × List UInt8))) (K : Nat) (x : Int × (List UInt8) × Int × Bool × List (Int × Int × List UInt8)) : Option ((List UInt8) × Int × Bool × List (Int × Int × List UInt8)) :=
  branch (decide (30 < x.1))
   (some (x.2.1, x.2.2.1, true, x.2.2.2.2))
   (bindO (α := ((List UInt8) × Int × Bool × List (Int × Int × List UInt8)) ⊕ ((List UInt8) × Int × Bool × List (Int × Int × List UInt8))) (branch x.2.2.2.1
      (some (.inl x.2))
      (bindO (F132 K (([45] : List UInt8), x.2)) fun v0 =>
      branch v0.1
       (bindO (F105i (w64 (x.1 + 1), v0.2)) fun v1 =>
       bindO (F109 K (4, 0, [], v1)) fun v2 =>
       some (.inl v2))
       (bindO (F132 K (([126] : List UInt8), v0.2)) fun v3 =>
       branch v3.1
        (bindO (F105i (w64 (x.1 + 1), v3.2)) fun v4 =>
        bindO (F109 K (5, 0, [], v4)) fun v5 =>
        some (.inl v5))
        (bindO (α := Int × Bool × (List UInt8) × Int × Bool × List (Int × Int × List UInt8)) (bindO (F132 K (([104, 105, 103, 104, 40] : List UInt8), v3.2)) fun v6 =>
          branch v6.1
           (some (x.1, true, v6.2))
           (bindO (F132 K (([108, 111, 119, 40] : List UInt8), v6.2)) fun v7 =>
           some (x.1, v7))) fun v8 =>
        branch v8.2.1
         (bindO (α := Int × Int × (List UInt8) × Int × Bool × List (Int × Int × List UInt8)) (nth v8.2.2.1 (w64 (v8.2.2.2.1 - 2)) fun v9 =>
           branch (decide ((v9.toNat : Int) = 104))
            (some (v8.1, 6, v8.2.2))
            (some (v8.1, 7, v8.2.2))) fun v10 =>
         bindO (F91i (1, w64 (v10.1 + 1), v10.2.2)) fun v11 =>
         branch v11.2.2.1
          (bindO (F109 K (v10.2.1, 0, [], v11.1, v11.2.1, true, v11.2.2.2)) fun v12 =>
          some (.inl v12))
          (bindO (F132 K (([41] : List UInt8), v11)) fun v13 =>
          bindO (F109 K (v10.2.1, 0, [], v13.2.1, v13.2.2.1, !v13.1, v13.2.2.2.2)) fun v14 =>
          some (.inl v14)))
         (bindO (F132 K (([98, 97, 110, 107, 40] : List UInt8), v8.2.2)) fun v15 =>
         branch v15.1
          (bindO (F133 K v15.2) fun v16 =>
          branch v16.2.2.2.1
           (bindO (F109 K (3, 0, v16.1, v16.2.1, v16.2.2.1, true, v16.2.2.2.2)) fun v17 =>
           some (.inl v17))
           (bindO (F30 K v16.1) fun v18 =>
           branch (!v18)
            (bindO (F109 K (3, 0, v16.1, v16.2.1, v16.2.2.1, true, v16.2.2.2.2)) fun v19 =>
            some (.inl v19))
            (bindO (F132 K (([41] : List UInt8), v16.2)) fun v20 =>
            bindO (F109 K (3, 0, v16.1, v20.2.1, v20.2.2.1, !v20.1, v20.2.2.2.2)) fun v21 =>
            some (.inl v21))))
          (bindO (F132 K (([40] : List UInt8), v15.2)) fun v22 =>
          branch v22.1
           (bindO (F91i (1, w64 (v8.1 + 1), v22.2)) fun v23 =>
           branch v23.2.2.1
            (some (.inl (v23.1, v23.2.1, true, v23.2.2.2)))
            (bindO (F132 K (([41] : List UInt8), v23)) fun v24 =>
            some (.inl (v24.2.1, v24.2.2.1, !v24.1, v24.2.2.2.2))))
           (some (.inr v22.2)))))))) fun v25 =>
   csO v25
    (fun v26 => some v26)
    (fun v27 => bindO (α := (List UInt8) × (List UInt8) × Int × Bool × List (Int × Int × List UInt8)) (bindO (F132 K (([36] : List UInt8), v27)) fun v28 =>
      branch v28.1
       (some (([36] : List UInt8), v28.2))
       (bindO (F132 K (([37] : List UInt8), v28.2)) fun v29 =>
       branch v29.1
        (some (([37] : List UInt8), v29.2))
        (some ([], v29.2)))) fun v30 =>
    bindO (F133 K v30.2) fun v31 =>
    guard (decide ((v30.1.length + v31.1.length) ≤ 9223372036854775807)) <|
    bindO (F134 K (v30.1 ++ v31.1)) fun v32 =>
    branch v32.2
     (bindO (F109 K (1, v32.1, [], v31.2)) fun v33 =>
     some v33)
     (bindO (α := (List UInt8) × Bool × (List UInt8) × Int × Bool × List (Int × Int × List UInt8)) (branch (decide (v30.1 = []))
        (bindO (F30 K v31.1) fun v34 =>
        some (v31.1, v34, v31.2))
        (some (v31.1, false, v31.2))) fun v35 =>
     branch v35.2.1
      (bindO (F109 K (2, 0, v35.1, v35.2.2)) fun v36 =>
      some v36)
      (some (v35.2.2.1, v35.2.2.2.1, true, v35.2.2.2.2.2)))))
theorem s105 (F105i : (Int × List UInt8 × Int × Bool × List (Int × Int × List UInt8)) → Option (List UInt8 × Int × Bool × List (Int × Int × List UInt8))) (F91i : (Int × Int × List UInt8 × Int × Bool × List (Int × Int × List UInt8)) → Option (List UInt8 × Int × Bool × List (Int × Int × List UInt8))) (K : Nat) (h105 : CtOk prog 105 (ct105s F105i)) (h91 : CtOk prog 91 (ct91s F91i)) : CtOk prog 105 (ct105s (F105b F105i F91i K)) :=
  con_mk (Y := Y) (L := [(30, ct30 K), (134, ct134 K), (132, ct132 K), (109, ct109 K), (133, ct133 K), (91, ct91s F91i), (105, ct105s F105i)]) (K := K) (an := (.seq (.seq .no (.cond .no .no)) (.seqJ [(1000000, ⟨(.l (.ptr 0 0 0) :: ru 147 []), [(0, ⟨4, false, .mix (some 109) [[.l (.v .s), .l (.v (.i .i64)), .l (.all 1), .l (.v .b)]]⟩), (1, ⟨3, true, .row (.c (.i .i64) (.c (.i .i64) .s))⟩)]⟩)] true (.blk (.seq .no (.cond .no (.seq .no (.cond (.seq .no .no) (.seq .no (.cond (.seq .no .no) (.seqJ [(1000000, ⟨(.l (.ptr 0 0 0) :: .l (.v (.i .i64)) :: ru 36 (.l (.v .b) :: ru 109 [])), [(0, ⟨4, false, .mix (some 109) [[.l (.v .s), .l (.v (.i .i64)), .l (.all 1), .l (.v .b)]]⟩), (1, ⟨3, true, .row (.c (.i .i64) (.c (.i .i64) .s))⟩)]⟩)] false (.seq .no .no) (.cond (.seq .no (.seqJ [(1000000, ⟨(.l (.ptr 0 0 0) :: .l (.v (.i .i64)) :: ru 2 (.l (.v (.i .i64)) :: ru 143 [])), [(0, ⟨4, false, .mix (some 109) [[.l (.v .s), .l (.v (.i .i64)), .l (.all 1), .l (.v .b)]]⟩), (1, ⟨3, true, .row (.c (.i .i64) (.c (.i .i64) .s))⟩)]⟩)] false (.seq .no .no) (.seq .no (.seq .no .no)))) (.seq .no (.cond (.seq .no (.seq .no .no)) (.seq .no (.cond (.seq .no .no) .no))))))))))))) (.seq .no (.seqJ [(1000000, ⟨(.l (.ptr 0 0 0) :: ru 5 (.l (.v .s) :: ru 141 [])), [(0, ⟨4, false, .mix (some 109) [[.l (.v .s), .l (.v (.i .i64)), .l (.all 1), .l (.v .b)]]⟩), (1, ⟨3, true, .row (.c (.i .i64) (.c (.i .i64) .s))⟩)]⟩)] false (.seq .no (.cond .no (.seq .no .no))) (.seq .no (.seq .no (.blk (.seq .no (.cond .no (.seqJ [(1000000, ⟨(.l (.ptr 0 0 0) :: ru 6 (.l (.v .s) :: ru 130 (.l (.v .b) :: ru 9 []))), [(0, ⟨4, false, .mix (some 109) [[.l (.v .s), .l (.v (.i .i64)), .l (.all 1), .l (.v .b)]]⟩), (1, ⟨3, true, .row (.c (.i .i64) (.c (.i .i64) .s))⟩)]⟩)] false .no .no))))))))))) func105 mixed (ctabOk_cons (c30 K) (ctabOk_cons (c134 K) (ctabOk_cons (c132 K) (ctabOk_cons (c109 K) (ctabOk_cons (c133 K) (ctabOk_cons h91 (ctabOk_cons h105 ctabOk_nil))))))) (by kernel_rfl) fun x => by kernel_rfl
-- (*loop.example/g00460/spec.l2P).level
def F91b_b0 (F105i : (Int × List UInt8 × Int × Bool × List (Int × Int × List UInt8)) → Option (List UInt8 × Int × Bool × List (Int × Int × List UInt8))) (F91i : (Int × Int × List UInt8 × Int × Bool × List (Int × Int × List UInt8)) → Option (List UInt8 × Int × Bool × List (Int × Int × List UInt8))) (K : Nat) (x : Int × Int × (List UInt8) × Int × Bool × List (Int × Int × List UInt8)) : Option ((Int × Int × (List UInt8) × Int × Bool × List (Int × Int × List UInt8)) ⊕ (((List UInt8) × Int × Bool × List (Int × Int × List UInt8)) ⊕ ((List UInt8) × Int × Bool × List (Int × Int × List UInt8)))) :=
  branch (!x.2.2.2.2.1)
   (bindO (F106 K x.2.2) fun v0 =>
   bindO (α := ((List UInt8) × Int × Bool × List (Int × Int × List UInt8)) ⊕ (Int × Int × Int × (List UInt8) × Int × Bool × List (Int × Int × List UInt8))) (branch (decide (v0.1 = 0))
      (some (.inl v0.2))
      (bindO (F107 K v0.1) fun v1 =>
      branch (decide (v1 < x.1))
       (some (.inl v0.2))
       (some (.inr (x.1, x.2.1, v0))))) fun v2 =>
   csO v2
    (fun v3 => some (.inr (.inl v3)))
    (fun v4 => bindO (F108 K ()) fun v5 =>
    nth v5 v4.2.2.1 fun v6 =>
    bindO (F107 K v4.2.2.1) fun v7 =>
    bindO (F91i (w64 (v7 + 1), w64 (v4.2.1 + 1), v4.2.2.2.1, w64 (v4.2.2.2.2.1 + (v6.length : Int)), v4.2.2.2.2.2)) fun v8 =>
    bindO (F109 K (v4.2.2.1, 0, [], v8)) fun v9 =>
    some (.inl (v4.1, v4.2.1, v9))))
   (some (.inr (.inr x.2.2)))
def F91b (F105i : (Int × List UInt8 × Int × Bool × List (Int × Int × List UInt8)) → Option (List UInt8 × Int × Bool × List (Int × Int × List UInt8))) (F91i : (Int × Int × List UInt8 × Int × Bool × List (Int × Int × List UInt8)) → Option (List UInt8 × Int × Bool × List (Int × Int × List UInt8))) (K : Nat) (x : Int × Int × (List UInt8) × Int × Bool × List (Int × Int × List UInt8)) : Option ((List UInt8) × Int × Bool × List (Int × Int × List UInt8)) :=
  bindO (F105i x.2) fun v0 =>
  bindO (iter K (F91b_b0 F105i F91i K) (x.1, x.2.1, v0)) fun v1 =>
  csO v1
   (fun v2 => some v2)
   (fun v3 => some v3)
theorem s91 (F105i : (Int × List UInt8 × Int × Bool × List (Int × Int × List UInt8)) → Option (List UInt8 × Int × Bool × List (Int × Int × List UInt8))) (F91i : (Int × Int × List UInt8 × Int × Bool × List (Int × Int × List UInt8)) → Option (List UInt8 × Int × Bool × List (Int × Int × List UInt8))) (K : Nat) (h105 : CtOk prog 105 (ct105s F105i)) (h91 : CtOk prog 91 (ct91s F91i)) : CtOk prog 91 (ct91s (F91b F105i F91i K)) :=
  con_mk (Y := Y) (L := [(108, ct108 K), (107, ct107 K), (106, ct106 K), (109, ct109 K), (91, ct91s F91i), (105, ct105s F105i)]) (K := K) (an := (.seq .no (.blk (.loop [] ⟨(.l (.ptr 0 0 0) :: .l (.v (.i .i64)) :: .l (.v (.i .i64)) :: ru 45 []), [(0, ⟨4, false, .mix (some 109) [[.l (.v .s), .l (.v (.i .i64)), .l (.all 1), .l (.v .b)]]⟩), (1, ⟨3, true, .row (.c (.i .i64) (.c (.i .i64) .s))⟩)]⟩ [(0, ⟨(ru 48 []), [(0, ⟨4, false, .mix (some 109) [[.l (.v .s), .l (.v (.i .i64)), .l (.all 1), .l (.v .b)]]⟩), (1, ⟨3, true, .row (.c (.i .i64) (.c (.i .i64) .s))⟩)]⟩)] true (.seq (.seq .no .no) (.blk (.seq .no (.seqJ [(1000000, ⟨(.l (.ptr 0 0 0) :: .l (.v (.i .i64)) :: .l (.v (.i .i64)) :: ru 3 (.l (.v (.i .i64)) :: ru 41 [])), [(0, ⟨4, false, .mix (some 109) [[.l (.v .s), .l (.v (.i .i64)), .l (.all 1), .l (.v .b)]]⟩), (1, ⟨3, true, .row (.c (.i .i64) (.c (.i .i64) .s))⟩)]⟩)] true (.seq .no .no) (.seq .no .no))))))))) func91 mixed (ctabOk_cons (c108 K) (ctabOk_cons (c107 K) (ctabOk_cons (c106 K) (ctabOk_cons (c109 K) (ctabOk_cons h91 (ctabOk_cons h105 ctabOk_nil)))))) (by kernel_rfl) fun x => by kernel_rfl
def spr (K R : Nat) : ((Int × List UInt8 × Int × Bool × List (Int × Int × List UInt8)) → Option (List UInt8 × Int × Bool × List (Int × Int × List UInt8))) × ((Int × Int × List UInt8 × Int × Bool × List (Int × Int × List UInt8)) → Option (List UInt8 × Int × Bool × List (Int × Int × List UInt8))) := Nat.rec (motive := fun _ => ((Int × List UInt8 × Int × Bool × List (Int × Int × List UInt8)) → Option (List UInt8 × Int × Bool × List (Int × Int × List UInt8))) × ((Int × Int × List UInt8 × Int × Bool × List (Int × Int × List UInt8)) → Option (List UInt8 × Int × Bool × List (Int × Int × List UInt8)))) ((fun _ => none, fun _ => none)) (fun _ ih => (F105b (ih.1) (ih.2) K, F91b (ih.1) (ih.2) K)) R
def R105 (K R : Nat) : (Int × List UInt8 × Int × Bool × List (Int × Int × List UInt8)) → Option (List UInt8 × Int × Bool × List (Int × Int × List UInt8)) := (spr K R).1
def R91 (K R : Nat) : (Int × Int × List UInt8 × Int × Bool × List (Int × Int × List UInt8)) → Option (List UInt8 × Int × Bool × List (Int × Int × List UInt8)) := (spr K R).2
theorem spr_ok (K : Nat) : ∀ R : Nat, CtOk prog 105 (ct105s (R105 K R)) ∧ CtOk prog 91 (ct91s (R91 K R))
  | 0 => ⟨(show CtOk prog 105 (ct105s fun _ => none) from ct_none), (show CtOk prog 91 (ct91s fun _ => none) from ct_none)⟩
  | R + 1 => by
    have ih := spr_ok K R
    exact ⟨s105 (R105 K R) (R91 K R) K ih.1 ih.2, s91 (R105 K R) (R91 K R) K ih.1 ih.2⟩
def F105 (K : Nat) (x : Int × List UInt8 × Int × Bool × List (Int × Int × List UInt8)) : Option (List UInt8 × Int × Bool × List (Int × Int × List UInt8)) := R105 K K x
def ct105 (K : Nat) : Ct := ⟨[.l (.ptr 0 0 0), .l (.v (.i .i64))], [⟨4, false, .mix (some 109) [[.l (.v .s), .l (.v (.i .i64)), .l (.all 1), .l (.v .b)]]⟩, ⟨3, true, .row (.c (.i .i64) (.c (.i .i64) .s))⟩], [], [⟨4, false, .mix (some 109) [[.l (.v .s), .l (.v (.i .i64)), .l (.all 1), .l (.v .b)]]⟩, ⟨3, true, .row (.c (.i .i64) (.c (.i .i64) .s))⟩], [], F105 K⟩
def F91 (K : Nat) (x : Int × Int × List UInt8 × Int × Bool × List (Int × Int × List UInt8)) : Option (List UInt8 × Int × Bool × List (Int × Int × List UInt8)) := R91 K K x
def ct91 (K : Nat) : Ct := ⟨[.l (.ptr 0 0 0), .l (.v (.i .i64)), .l (.v (.i .i64))], [⟨4, false, .mix (some 109) [[.l (.v .s), .l (.v (.i .i64)), .l (.all 1), .l (.v .b)]]⟩, ⟨3, true, .row (.c (.i .i64) (.c (.i .i64) .s))⟩], [], [⟨4, false, .mix (some 109) [[.l (.v .s), .l (.v (.i .i64)), .l (.all 1), .l (.v .b)]]⟩, ⟨3, true, .row (.c (.i .i64) (.c (.i .i64) .s))⟩], [], F91 K⟩
theorem c91 (K : Nat) : CtOk prog 91 (ct91 K) := (spr_ok K K).2
def ct143s (F : (Int × List UInt8 × Int × Bool × List (Int × Int × List UInt8)) → Option (List UInt8 × Int × Bool × List (Int × Int × List UInt8))) : Ct := ⟨[.l (.ptr 0 0 0), .l (.v (.i .i64))], [⟨4, false, .mix (some 116) [[.l (.v .s), .l (.v (.i .i64)), .l (.all 1), .l (.v .b)]]⟩, ⟨3, true, .row (.c (.i .i64) (.c (.i .i64) .s))⟩], [], [⟨4, false, .mix (some 116) [[.l (.v .s), .l (.v (.i .i64)), .l (.all 1), .l (.v .b)]]⟩, ⟨3, true, .row (.c (.i .i64) (.c (.i .i64) .s))⟩], [], F⟩
def ct124s (F : (Int × List UInt8 × Int × Bool × List (Int × Int × List UInt8)) → Option (List UInt8 × Int × Bool × List (Int × Int × List UInt8))) : Ct := ⟨[.l (.ptr 0 0 0), .l (.v (.i .i64))], [⟨4, false, .mix (some 116) [[.l (.v .s), .l (.v (.i .i64)), .l (.all 1), .l (.v .b)]]⟩, ⟨3, true, .row (.c (.i .i64) (.c (.i .i64) .s))⟩], [], [⟨4, false, .mix (some 116) [[.l (.v .s), .l (.v (.i .i64)), .l (.all 1), .l (.v .b)]]⟩, ⟨3, true, .row (.c (.i .i64) (.c (.i .i64) .s))⟩], [], F⟩
def ct96s (F : (Int × Int × List UInt8 × Int × Bool × List (Int × Int × List UInt8)) → Option (List UInt8 × Int × Bool × List (Int × Int × List UInt8))) : Ct := ⟨[.l (.ptr 0 0 0), .l (.v (.i .i64)), .l (.v (.i .i64))], [⟨4, false, .mix (some 116) [[.l (.v .s), .l (.v (.i .i64)), .l (.all 1), .l (.v .b)]]⟩, ⟨3, true, .row (.c (.i .i64) (.c (.i .i64) .s))⟩], [], [⟨4, false, .mix (some 116) [[.l (.v .s), .l (.v (.i .i64)), .l (.all 1), .l (.v .b)]]⟩, ⟨3, true, .row (.c (.i .i64) (.c (.i .i64) .s))⟩], [], F⟩
-- (*loop.example/g00460/impl.formula).word
def F143b (F143i : (Int × List UInt8 × Int × Bool × List (Int × Int × List UInt8)) → Option (List UInt8 × Int × Bool × List (Int × Int × List UInt8))) (F124i : (Int × List UInt8 × Int × Bool × List (Int × Int × List UInt8)) → Option (List UInt8 × Int × Bool × List (Int × Int × List UInt8))) (F96i : (Int × Int × List UInt8 × Int × Bool × List (Int × Int × List UInt8)) → Option (List UInt8 × Int × Bool × List (Int × Int × List UInt8))) (K : Nat) (x : Int × (List UInt8) × Int × Bool × List (Int × Int × List UInt8)) : Option ((List UInt8) × Int × Bool × List (Int × Int × List UInt8)) :=
  bindO (α := Int × (List UInt8) × (List UInt8) × Int × Bool × List (Int × Int × List UInt8)) (bindO (F125 K (([36] : List UInt8), x.2)) fun v0 =>
    branch v0.1
     (some (x.1, ([36] : List UInt8), v0.2))
     (bindO (F125 K (([37] : List UInt8), v0.2)) fun v1 =>
     branch v1.1
      (some (x.1, ([37] : List UInt8), v1.2))
      (some (x.1, [], v1.2)))) fun v2 =>
  bindO (F153 K v2.2.2) fun v3 =>
  guard (decide ((v2.2.1.length + v3.1.length) ≤ 9223372036854775807)) <|
  bindO (F154 K (v2.2.1 ++ v3.1)) fun v4 =>
  branch v4.2
   (bindO (F127 K (1, v4.1, [], v3.2)) fun v5 =>
   some v5)
   (bindO (F53 K (v2.2.1 ++ v3.1)) fun v6 =>
   branch (!v6)
    (some (v3.2.1, v3.2.2.1, true, v3.2.2.2.2))
    (bindO (α := Int × (List UInt8) × Bool × (List UInt8) × Int × Bool × List (Int × Int × List UInt8)) (branch (decide ((v2.2.1 ++ v3.1) = ([104, 105, 103, 104] : List UInt8)))
       (bindO (F125 K (([40] : List UInt8), v3.2)) fun v7 =>
       some (v2.1, v2.2.1 ++ v3.1, v7))
       (branch (decide ((v2.2.1 ++ v3.1) = ([108, 111, 119] : List UInt8)))
        (bindO (F125 K (([40] : List UInt8), v3.2)) fun v8 =>
        some (v2.1, v2.2.1 ++ v3.1, v8))
        (branch (decide ((v2.2.1 ++ v3.1) = ([98, 97, 110, 107] : List UInt8)))
         (bindO (F125 K (([40] : List UInt8), v3.2)) fun v9 =>
         some (v2.1, v2.2.1 ++ v3.1, v9))
         (some (v2.1, v2.2.1 ++ v3.1, false, v3.2))))) fun v10 =>
    branch v10.2.2.1
     (branch (decide (v10.2.1 = ([98, 97, 110, 107] : List UInt8)))
      (bindO (F153 K v10.2.2.2) fun v11 =>
      branch v11.2.2.2.1
       (bindO (F127 K (3, 0, v11.1, v11.2.1, v11.2.2.1, true, v11.2.2.2.2)) fun v12 =>
       bindO (F142 K (([41] : List UInt8), v12)) fun v13 =>
       some v13)
       (bindO (F53 K v11.1) fun v14 =>
       bindO (F127 K (3, 0, v11.1, v11.2.1, v11.2.2.1, !v14, v11.2.2.2.2)) fun v15 =>
       bindO (F142 K (([41] : List UInt8), v15)) fun v16 =>
       some v16))
      (bindO (F96i (0, w64 (v10.1 + 1), v10.2.2.2)) fun v17 =>
      branch (decide (v10.2.1 = ([108, 111, 119] : List UInt8)))
       (bindO (F127 K (7, 0, [], v17)) fun v18 =>
       bindO (F142 K (([41] : List UInt8), v18)) fun v19 =>
       some v19)
       (bindO (F127 K (6, 0, [], v17)) fun v20 =>
       bindO (F142 K (([41] : List UInt8), v20)) fun v21 =>
       some v21)))
     (bindO (F127 K (2, 0, v10.2.1, v10.2.2.2)) fun v22 =>
     some v22)))
theorem s143 (F143i : (Int × List UInt8 × Int × Bool × List (Int × Int × List UInt8)) → Option (List UInt8 × Int × Bool × List (Int × Int × List UInt8))) (F124i : (Int × List UInt8 × Int × Bool × List (Int × Int × List UInt8)) → Option (List UInt8 × Int × Bool × List (Int × Int × List UInt8))) (F96i : (Int × Int × List UInt8 × Int × Bool × List (Int × Int × List UInt8)) → Option (List UInt8 × Int × Bool × List (Int × Int × List UInt8))) (K : Nat) (h143 : CtOk prog 143 (ct143s F143i)) (h124 : CtOk prog 124 (ct124s F124i)) (h96 : CtOk prog 96 (ct96s F96i)) : CtOk prog 143 (ct143s (F143b F143i F124i F96i K)) :=
  con_mk (Y := Y) (L := [(53, ct53 K), (154, ct154 K), (125, ct125 K), (153, ct153 K), (142, ct142 K), (127, ct127 K), (96, ct96s F96i)]) (K := K) (an := (.seq .no (.seqJ [(1000000, ⟨(.l (.ptr 0 0 0) :: .l (.v (.i .i64)) :: ru 2 (.l (.v .s) :: ru 79 [])), [(0, ⟨4, false, .mix (some 116) [[.l (.v .s), .l (.v (.i .i64)), .l (.all 1), .l (.v .b)]]⟩), (1, ⟨3, true, .row (.c (.i .i64) (.c (.i .i64) .s))⟩)]⟩)] false (.seq .no (.cond .no (.seq .no .no))) (.seq .no (.seq (.seq .no (.seq .no (.cond .no .no))) (.seq (.seq .no (.cond .no .no)) (.seq (.seqJ [(1000000, ⟨(.l (.ptr 0 0 0) :: .l (.v (.i .i64)) :: ru 3 (.l (.v .s) :: ru 41 (.l (.v .b) :: ru 36 []))), [(0, ⟨4, false, .mix (some 116) [[.l (.v .s), .l (.v (.i .i64)), .l (.all 1), .l (.v .b)]]⟩), (1, ⟨3, true, .row (.c (.i .i64) (.c (.i .i64) .s))⟩)]⟩)] false .no (.cond (.seq (.seq .no (.cond (.seq .no .no) (.seq .no (.seq .no (.seq (.seq .no .no) .no))))) .no) .no)) .no))))))) func143 mixed (ctabOk_cons (c53 K) (ctabOk_cons (c154 K) (ctabOk_cons (c125 K) (ctabOk_cons (c153 K) (ctabOk_cons (c142 K) (ctabOk_cons (c127 K) (ctabOk_cons h96 ctabOk_nil))))))) (by kernel_rfl) fun x => by kernel_rfl
-- (*loop.example/g00460/impl.formula).value
def F124b (F143i : (Int × List UInt8 × Int × Bool × List (Int × Int × List UInt8)) → Option (List UInt8 × Int × Bool × List (Int × Int × List UInt8))) (F124i : (Int × List UInt8 × Int × Bool × List (Int × Int × List UInt8)) → Option (List UInt8 × Int × Bool × List (Int × Int × List UInt8))) (F96i : (Int × Int × List UInt8 × Int × Bool × List (Int × Int × List UInt8)) → Option (List UInt8 × Int × Bool × List (Int × Int × List UInt8))) (K : Nat) (x : Int × (List UInt8) × Int × Bool × List (Int × Int × List UInt8)) : Option ((List UInt8) × Int × Bool × List (Int × Int × List UInt8)) :=
  bindO (α := ((List UInt8) × Int × Bool × List (Int × Int × List UInt8)) ⊕ (Int × (List UInt8) × Int × Bool × List (Int × Int × List UInt8))) (bindO (α := Int × Bool × (List UInt8) × Int × Bool × List (Int × Int × List UInt8)) (branch x.2.2.2.1
       (some (x.1, true, x.2))
       (some (x.1, decide (30 < x.1), x.2))) fun v0 =>
    branch v0.2.1
     (some (.inl (v0.2.2.1, v0.2.2.2.1, true, v0.2.2.2.2.2)))
     (some (.inr (v0.1, v0.2.2)))) fun v1 =>
  csO v1
   (fun v2 => some v2)
   (fun v3 => bindO (F125 K (([45] : List UInt8), v3.2)) fun v4 =>
   branch v4.1
    (bindO (F124i (w64 (v3.1 + 1), v4.2)) fun v5 =>
    bindO (F127 K (4, 0, [], v5)) fun v6 =>
    some v6)
    (bindO (F125 K (([126] : List UInt8), v4.2)) fun v7 =>
    branch v7.1
     (bindO (F124i (w64 (v3.1 + 1), v7.2)) fun v8 =>
     bindO (F127 K (5, 0, [], v8)) fun v9 =>
     some v9)
     (bindO (F125 K (([40] : List UInt8), v7.2)) fun v10 =>
     branch v10.1
      (bindO (F96i (0, w64 (v3.1 + 1), v10.2)) fun v11 =>
      bindO (F142 K (([41] : List UInt8), v11)) fun v12 =>
      some v12)
      (bindO (F143i (v3.1, v10.2)) fun v13 =>
      some v13))))
theorem s124 (F143i : (Int × List UInt8 × Int × Bool × List (Int × Int × List UInt8)) → Option (List UInt8 × Int × Bool × List (Int × Int × List UInt8))) (F124i : (Int × List UInt8 × Int × Bool × List (Int × Int × List UInt8)) → Option (List UInt8 × Int × Bool × List (Int × Int × List UInt8))) (F96i : (Int × Int × List UInt8 × Int × Bool × List (Int × Int × List UInt8)) → Option (List UInt8 × Int × Bool × List (Int × Int × List UInt8))) (K : Nat) (h143 : CtOk prog 143 (ct143s F143i)) (h124 : CtOk prog 124 (ct124s F124i)) (h96 : CtOk prog 96 (ct96s F96i)) : CtOk prog 124 (ct124s (F124b F143i F124i F96i K)) :=
  con_mk (Y := Y) (L := [(125, ct125 K), (142, ct142 K), (127, ct127 K), (96, ct96s F96i), (124, ct124s F124i), (143, ct143s F143i)]) (K := K) (an := (.seqJ [(1000000, ⟨(.l (.ptr 0 0 0) :: .l (.v (.i .i64)) :: ru 45 []), [(0, ⟨4, false, .mix (some 116) [[.l (.v .s), .l (.v (.i .i64)), .l (.all 1), .l (.v .b)]]⟩), (1, ⟨3, true, .row (.c (.i .i64) (.c (.i .i64) .s))⟩)]⟩)] true (.seqJ [(1000000, ⟨(.l (.ptr 0 0 0) :: .l (.v (.i .i64)) :: ru 9 (.l (.v .b) :: ru 35 [])), [(0, ⟨4, false, .mix (some 116) [[.l (.v .s), .l (.v (.i .i64)), .l (.all 1), .l (.v .b)]]⟩), (1, ⟨3, true, .row (.c (.i .i64) (.c (.i .i64) .s))⟩)]⟩)] false .no (.cond .no .no)) (.seq (.blk (.seq .no (.cond (.seq .no .no) (.seq .no (.cond (.seq .no .no) (.seq .no (.cond (.seq .no .no) .no))))))) .no))) func124 mixed (ctabOk_cons (c125 K) (ctabOk_cons (c142 K) (ctabOk_cons (c127 K) (ctabOk_cons h96 (ctabOk_cons h124 (ctabOk_cons h143 ctabOk_nil)))))) (by kernel_rfl) fun x => by kernel_rfl
-- (*loop.example/g00460/impl.formula).level
def F96b_b1 (F143i : (Int × List UInt8 × Int × Bool × List (Int × Int × List UInt8)) → Option (List UInt8 × Int × Bool × List (Int × Int × List UInt8))) (F124i : (Int × List UInt8 × Int × Bool × List (Int × Int × List UInt8)) → Option (List UInt8 × Int × Bool × List (Int × Int × List UInt8))) (F96i : (Int × Int × List UInt8 × Int × Bool × List (Int × Int × List UInt8)) → Option (List UInt8 × Int × Bool × List (Int × Int × List UInt8))) (K : Nat) (x : Int × Int × Int × (List Int) × Int × Int × (List UInt8) × Int × Bool × List (Int × Int × List UInt8)) : Option ((Int × Int × Int × (List Int) × Int × Int × (List UInt8) × Int × Bool × List (Int × Int × List UInt8)) ⊕ (Int × Int × Int × (List UInt8) × Int × Bool × List (Int × Int × List UInt8))) :=
  branch (decide (x.2.2.2.2.2.1 < x.2.2.2.2.1))
   (nth x.2.2.2.1 x.2.2.2.2.2.1 fun v0 =>
   bindO (F126 K ()) fun v1 =>
   nth v1 (w64 (v0 - 4)) fun v2 =>
   bindO (F125 K (v2, x.2.2.2.2.2.2)) fun v3 =>
   branch v3.1
    (some (.inr (x.1, x.2.1, v0, v3.2)))
    (some (.inl (x.1, x.2.1, x.2.2.1, x.2.2.2.1, x.2.2.2.2.1, w64 (x.2.2.2.2.2.1 + 1), v3.2))))
   (some (.inr (x.1, x.2.1, x.2.2.1, x.2.2.2.2.2.2)))
def F96b_b0 (F143i : (Int × List UInt8 × Int × Bool × List (Int × Int × List UInt8)) → Option (List UInt8 × Int × Bool × List (Int × Int × List UInt8))) (F124i : (Int × List UInt8 × Int × Bool × List (Int × Int × List UInt8)) → Option (List UInt8 × Int × Bool × List (Int × Int × List UInt8))) (F96i : (Int × Int × List UInt8 × Int × Bool × List (Int × Int × List UInt8)) → Option (List UInt8 × Int × Bool × List (Int × Int × List UInt8))) (K : Nat) (x : Int × Int × (List UInt8) × Int × Bool × List (Int × Int × List UInt8)) : Option ((Int × Int × (List UInt8) × Int × Bool × List (Int × Int × List UInt8)) ⊕ (((List UInt8) × Int × Bool × List (Int × Int × List UInt8)) ⊕ ((List UInt8) × Int × Bool × List (Int × Int × List UInt8)))) :=
  branch (!x.2.2.2.2.1)
   (bindO (F123 K ()) fun v0 =>
   nth v0 x.1 fun v1 =>
   bindO (iter K (F96b_b1 F143i F124i F96i K) (x.1, x.2.1, 0, v1, (v1.length : Int), 0, x.2.2)) fun v2 =>
   branch (decide (v2.2.2.1 = 0))
    (some (.inr (.inl v2.2.2.2)))
    (bindO (F96i (w64 (v2.1 + 1), w64 (v2.2.1 + 1), v2.2.2.2)) fun v3 =>
    bindO (F127 K (v2.2.2.1, 0, [], v3)) fun v4 =>
    some (.inl (v2.1, v2.2.1, v4))))
   (some (.inr (.inr x.2.2)))
def F96b (F143i : (Int × List UInt8 × Int × Bool × List (Int × Int × List UInt8)) → Option (List UInt8 × Int × Bool × List (Int × Int × List UInt8))) (F124i : (Int × List UInt8 × Int × Bool × List (Int × Int × List UInt8)) → Option (List UInt8 × Int × Bool × List (Int × Int × List UInt8))) (F96i : (Int × Int × List UInt8 × Int × Bool × List (Int × Int × List UInt8)) → Option (List UInt8 × Int × Bool × List (Int × Int × List UInt8))) (K : Nat) (x : Int × Int × (List UInt8) × Int × Bool × List (Int × Int × List UInt8)) : Option ((List UInt8) × Int × Bool × List (Int × Int × List UInt8)) :=
  bindO (F123 K ()) fun v0 =>
  branch (decide (x.1 = (v0.length : Int)))
   (bindO (F124i x.2) fun v1 =>
   some v1)
   (bindO (F96i (w64 (x.1 + 1), x.2)) fun v2 =>
   bindO (iter K (F96b_b0 F143i F124i F96i K) (x.1, x.2.1, v2)) fun v3 =>
   csO v3
    (fun v4 => some v4)
    (fun v5 => some v5))
theorem s96 (F143i : (Int × List UInt8 × Int × Bool × List (Int × Int × List UInt8)) → Option (List UInt8 × Int × Bool × List (Int × Int × List UInt8))) (F124i : (Int × List UInt8 × Int × Bool × List (Int × Int × List UInt8)) → Option (List UInt8 × Int × Bool × List (Int × Int × List UInt8))) (F96i : (Int × Int × List UInt8 × Int × Bool × List (Int × Int × List UInt8)) → Option (List UInt8 × Int × Bool × List (Int × Int × List UInt8))) (K : Nat) (h143 : CtOk prog 143 (ct143s F143i)) (h124 : CtOk prog 124 (ct124s F124i)) (h96 : CtOk prog 96 (ct96s F96i)) : CtOk prog 96 (ct96s (F96b F143i F124i F96i K)) :=
  con_mk (Y := Y) (L := [(123, ct123 K), (126, ct126 K), (125, ct125 K), (127, ct127 K), (96, ct96s F96i), (124, ct124s F124i)]) (K := K) (an := (.seq (.seq .no (.cond .no .no)) (.seq .no (.blk (.loop [] ⟨(.l (.ptr 0 0 0) :: .l (.v (.i .i64)) :: .l (.v (.i .i64)) :: ru 53 []), [(0, ⟨4, false, .mix (some 116) [[.l (.v .s), .l (.v (.i .i64)), .l (.all 1), .l (.v .b)]]⟩), (1, ⟨3, true, .row (.c (.i .i64) (.c (.i .i64) .s))⟩)]⟩ [(0, ⟨(ru 56 []), [(0, ⟨4, false, .mix (some 116) [[.l (.v .s), .l (.v (.i .i64)), .l (.all 1), .l (.v .b)]]⟩), (1, ⟨3, true, .row (.c (.i .i64) (.c (.i .i64) .s))⟩)]⟩)] true (.seq (.seq .no .no) (.blk (.seq .no (.seq (.seq .no (.blk (.loop [] ⟨(.l (.ptr 0 0 0) :: .l (.v (.i .i64)) :: .l (.v (.i .i64)) :: ru 3 (.l (.v (.i .i64)) :: ru 22 (.l (.v (.l (.i .i64))) :: .l (.v (.i .i64)) :: .l (.v (.i .i64)) :: ru 24 []))), [(0, ⟨4, false, .mix (some 116) [[.l (.v .s), .l (.v (.i .i64)), .l (.all 1), .l (.v .b)]]⟩), (1, ⟨3, true, .row (.c (.i .i64) (.c (.i .i64) .s))⟩)]⟩ [(2, ⟨(.l (.ptr 0 0 0) :: .l (.v (.i .i64)) :: .l (.v (.i .i64)) :: ru 3 (.l (.v (.i .i64)) :: ru 49 [])), [(0, ⟨4, false, .mix (some 116) [[.l (.v .s), .l (.v (.i .i64)), .l (.all 1), .l (.v .b)]]⟩), (1, ⟨3, true, .row (.c (.i .i64) (.c (.i .i64) .s))⟩)]⟩)] false (.seq .no (.seq .no (.seq (.blk (.seq .no (.seq .no (.cond .no .no)))) .no)))))) (.seq (.seq .no .no) .no)))))))))) func96 mixed (ctabOk_cons (c123 K) (ctabOk_cons (c126 K) (ctabOk_cons (c125 K) (ctabOk_cons (c127 K) (ctabOk_cons h96 (ctabOk_cons h124 ctabOk_nil)))))) (by kernel_rfl) fun x => by kernel_rfl
def imr (K R : Nat) : ((Int × List UInt8 × Int × Bool × List (Int × Int × List UInt8)) → Option (List UInt8 × Int × Bool × List (Int × Int × List UInt8))) × ((Int × List UInt8 × Int × Bool × List (Int × Int × List UInt8)) → Option (List UInt8 × Int × Bool × List (Int × Int × List UInt8))) × ((Int × Int × List UInt8 × Int × Bool × List (Int × Int × List UInt8)) → Option (List UInt8 × Int × Bool × List (Int × Int × List UInt8))) := Nat.rec (motive := fun _ => ((Int × List UInt8 × Int × Bool × List (Int × Int × List UInt8)) → Option (List UInt8 × Int × Bool × List (Int × Int × List UInt8))) × ((Int × List UInt8 × Int × Bool × List (Int × Int × List UInt8)) → Option (List UInt8 × Int × Bool × List (Int × Int × List UInt8))) × ((Int × Int × List UInt8 × Int × Bool × List (Int × Int × List UInt8)) → Option (List UInt8 × Int × Bool × List (Int × Int × List UInt8)))) ((fun _ => none, fun _ => none, fun _ => none)) (fun _ ih => (F143b (ih.1) (ih.2.1) (ih.2.2) K, F124b (ih.1) (ih.2.1) (ih.2.2) K, F96b (ih.1) (ih.2.1) (ih.2.2) K)) R
def R143 (K R : Nat) : (Int × List UInt8 × Int × Bool × List (Int × Int × List UInt8)) → Option (List UInt8 × Int × Bool × List (Int × Int × List UInt8)) := (imr K R).1
def R124 (K R : Nat) : (Int × List UInt8 × Int × Bool × List (Int × Int × List UInt8)) → Option (List UInt8 × Int × Bool × List (Int × Int × List UInt8)) := (imr K R).2.1
def R96 (K R : Nat) : (Int × Int × List UInt8 × Int × Bool × List (Int × Int × List UInt8)) → Option (List UInt8 × Int × Bool × List (Int × Int × List UInt8)) := (imr K R).2.2
theorem imr_ok (K : Nat) : ∀ R : Nat, CtOk prog 143 (ct143s (R143 K R)) ∧ CtOk prog 124 (ct124s (R124 K R)) ∧ CtOk prog 96 (ct96s (R96 K R))
  | 0 => ⟨(show CtOk prog 143 (ct143s fun _ => none) from ct_none), (show CtOk prog 124 (ct124s fun _ => none) from ct_none), (show CtOk prog 96 (ct96s fun _ => none) from ct_none)⟩
  | R + 1 => by
    have ih := imr_ok K R
    exact ⟨s143 (R143 K R) (R124 K R) (R96 K R) K ih.1 ih.2.1 ih.2.2, s124 (R143 K R) (R124 K R) (R96 K R) K ih.1 ih.2.1 ih.2.2, s96 (R143 K R) (R124 K R) (R96 K R) K ih.1 ih.2.1 ih.2.2⟩
def F143 (K : Nat) (x : Int × List UInt8 × Int × Bool × List (Int × Int × List UInt8)) : Option (List UInt8 × Int × Bool × List (Int × Int × List UInt8)) := R143 K K x
def ct143 (K : Nat) : Ct := ⟨[.l (.ptr 0 0 0), .l (.v (.i .i64))], [⟨4, false, .mix (some 116) [[.l (.v .s), .l (.v (.i .i64)), .l (.all 1), .l (.v .b)]]⟩, ⟨3, true, .row (.c (.i .i64) (.c (.i .i64) .s))⟩], [], [⟨4, false, .mix (some 116) [[.l (.v .s), .l (.v (.i .i64)), .l (.all 1), .l (.v .b)]]⟩, ⟨3, true, .row (.c (.i .i64) (.c (.i .i64) .s))⟩], [], F143 K⟩
def F124 (K : Nat) (x : Int × List UInt8 × Int × Bool × List (Int × Int × List UInt8)) : Option (List UInt8 × Int × Bool × List (Int × Int × List UInt8)) := R124 K K x
def ct124 (K : Nat) : Ct := ⟨[.l (.ptr 0 0 0), .l (.v (.i .i64))], [⟨4, false, .mix (some 116) [[.l (.v .s), .l (.v (.i .i64)), .l (.all 1), .l (.v .b)]]⟩, ⟨3, true, .row (.c (.i .i64) (.c (.i .i64) .s))⟩], [], [⟨4, false, .mix (some 116) [[.l (.v .s), .l (.v (.i .i64)), .l (.all 1), .l (.v .b)]]⟩, ⟨3, true, .row (.c (.i .i64) (.c (.i .i64) .s))⟩], [], F124 K⟩
def F96 (K : Nat) (x : Int × Int × List UInt8 × Int × Bool × List (Int × Int × List UInt8)) : Option (List UInt8 × Int × Bool × List (Int × Int × List UInt8)) := R96 K K x
def ct96 (K : Nat) : Ct := ⟨[.l (.ptr 0 0 0), .l (.v (.i .i64)), .l (.v (.i .i64))], [⟨4, false, .mix (some 116) [[.l (.v .s), .l (.v (.i .i64)), .l (.all 1), .l (.v .b)]]⟩, ⟨3, true, .row (.c (.i .i64) (.c (.i .i64) .s))⟩], [], [⟨4, false, .mix (some 116) [[.l (.v .s), .l (.v (.i .i64)), .l (.all 1), .l (.v .b)]]⟩, ⟨3, true, .row (.c (.i .i64) (.c (.i .i64) .s))⟩], [], F96 K⟩
theorem c96 (K : Nat) : CtOk prog 96 (ct96 K) := (imr_ok K K).2.2
end Go.U.Tryz
