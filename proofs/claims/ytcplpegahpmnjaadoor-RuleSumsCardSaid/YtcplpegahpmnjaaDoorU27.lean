/- What functions of the program compute. No condition. -/
import Derived.Test.YtcplpegahpmnjaaDoorU26
set_option linter.unusedSimpArgs false
set_option linter.unusedVariables false
namespace Go.Proofs.YtcplpegahpmnjaaDoor
open Go Go.Ab
def PQ1 (labs : List (List UInt8)) (nl : Nat) (ps : Nat → List UInt8) (r : Nat) (us : Nat → Int) (cs : Nat → List Cap) : Nat → List AO
  | 0 => [.box [.nils, .nils], .box [.sl false 1 (labs.map AV.str), .nils]]
  | _ => [.box [.nils, .nils], .box [.sl false 1 (labs.map AV.str), .own 2 3 0 1], .box ([.str (ps 0), .own 3 2 0 nl, .int .i64 (us 0)] ++ List.replicate r AV.any), .arr 2 ((cs 0).map CAP)]
set_option maxRecDepth 20000 in
set_option maxHeartbeats 16000000 in
theorem qloop1 (ns : List Int) (hns : ns.length < 2 ^ 62) (labs pl : List (List UInt8)) (nl : Nat) (hlab : labs.length = nl) (hnl : nl = 1 ∨ nl = 2) (hpl : pl.length = 1) (ps : Nat → List UInt8) (hpp : ∀ (q : Nat) (h : q < pl.length), pl[q] = ps q) (us : Nat → Int) (cs : Nat → List Cap) (Q : AE → St → Prop)
    (hQ : ∀ (r : Nat) (us : Nat → Int) (cs : Nat → List Cap), (∀ q, q < 1 → cs q = List.replicate nl W0 ∧ 1 ≤ us q ∧ us q ≤ 1000000) → Q (.exit 0) ⟨[(1, .sl false 1 (ns.map I64)), (4, .ref 0 0 0), (6, .ref 1 0 0), (7, .sl false 1 (pl.map AV.str)), (8, .int .i64 (1 : Int)), (40, .bool false)], [.box [.nils, .nils], .box [.sl false 1 (labs.map AV.str), .own 2 3 0 1], .box ([.str (ps 0), .own 3 2 0 nl, .int .i64 (us 0)] ++ List.replicate r AV.any), .arr 2 ((cs 0).map CAP)]⟩) (s0 : St) (hs0 : Sub 0 (keepK (some [1, 4, 6, 7, 8]) s0) ⟨[(1, .sl false 1 (ns.map I64)), (4, .ref 0 0 0), (6, .ref 1 0 0), (7, .sl false 1 (pl.map AV.str)), (8, .int .i64 (((0 : Nat) : Int) : Int))], PQ1 labs nl ps 0 us cs 0⟩) :
    aw Tryd.prog (.loop 0 (some [1, 4, 6, 7, 8]) cc10l5) Q s0 := by
  refine aw_loopS (σ := Nat × Nat × (Nat → Int) × (Nat → List Cap)) (fun q => ⟨[(1, .sl false 1 (ns.map I64)), (4, .ref 0 0 0), (6, .ref 1 0 0), (7, .sl false 1 (pl.map AV.str)), (8, .int .i64 (q.1 : Int))], PQ1 labs nl ps q.2.1 q.2.2.1 q.2.2.2 q.1⟩) (fun q => q.1 ≤ 1 ∧ ∀ w, w < q.1 → q.2.2.2 w = List.replicate nl W0 ∧ 1 ≤ q.2.2.1 w ∧ q.2.2.1 w ≤ 1000000) (fun q => 1 - q.1) (0, 0, us, cs) hs0 ⟨by simp, fun w hw => by simp at hw⟩ ?_
  rintro ⟨i, r, us, cs⟩ ⟨hi, hcs⟩
  simp only at hi hcs ⊢
  rcases (by omega : i = 0 ∨ i = 1) with rfl | rfl
  · refine qstep0 ns hns labs pl nl r hlab hnl (by omega) ps us cs _ fun u r' hu1 hu2 => ?_
    refine ⟨(1, r', (fun q => if q = 0 then u else us q), fun q => if q = 0 then List.replicate nl W0 else cs q), ?_, ⟨by simp only; omega, fun q hq => ?_⟩, by simp only; omega⟩
    · simp only [hpp, PQ1, ↓reduceIte, Nat.reduceEqDiff, Nat.one_ne_zero, Nat.zero_ne_one]
      generalize List.replicate nl W0 = W
      (refine Sub.ofL [some 0, some 1, some 5, some 3] rfl (by simp) (by decide) (by simp [partL, AO.ro, AV.ro, AV.roL, names, AO.empty, SB, U8, SI, I64, STR] <;> (try and_intros) <;> rfl) (by simp [AO.bo, AV.bo, AV.boL, names] <;> (try and_intros) <;> rfl) ?_ <;> (try simp only [List.map_cons, List.map_nil, regsL, AV.ro, AV.roL, AV.bo, AV.boL, names, get_here, get_there, Nat.reduceBEq, List.getD_cons_zero, List.getD_cons_succ, List.getD_nil, and_true, true_and, Nat.reduceLT, List.length_cons, List.length_nil, Nat.reduceAdd, decide_true, Option.isSome_some, Bool.true_or, Bool.and_self, Option.isSome_none, Bool.false_or, beq_self_eq_true, wk0_self, wk0_nils]) <;> (try and_intros) <;> (first | done | rfl | exact .inl rfl | exact .inr ⟨rfl, _, _, rfl⟩ | (simp; done) | (simp; omega) | (refine .inl ?_; simp; done) | (refine .inl ?_; simp; omega)))
    · simp only
      by_cases hqi : q = 0
      · simp only [hqi, if_true]; exact ⟨trivial, hu1, hu2⟩
      · simp only [if_neg hqi]; exact hcs q (by simp only at hq; omega)
  · unfold cc10l5 PQ1
    simp -implicitDefEqProofs (maxSteps := 500000) (disch := first | decide | omega) only [↓preS, allS, decS, simprocAttr, hpl]
    exact hQ r us cs hcs
def PQ2 (labs : List (List UInt8)) (nl : Nat) (ps : Nat → List UInt8) (r : Nat) (us : Nat → Int) (cs : Nat → List Cap) : Nat → List AO
  | 0 => [.box [.nils, .nils], .box [.sl false 1 (labs.map AV.str), .nils]]
  | 1 => [.box [.nils, .nils], .box [.sl false 1 (labs.map AV.str), .own 2 3 0 1], .box ([.str (ps 0), .own 3 2 0 nl, .int .i64 (us 0)] ++ List.replicate r AV.any), .arr 2 ((cs 0).map CAP)]
  | _ => [.box [.nils, .nils], .box [.sl false 1 (labs.map AV.str), .own 2 3 0 2], .box ([.str (ps 0), .own 3 2 0 nl, .int .i64 (us 0), .str (ps 1), .own 4 2 0 nl, .int .i64 (us 1)] ++ List.replicate r AV.any), .arr 2 ((cs 0).map CAP), .arr 2 ((cs 1).map CAP)]
set_option maxRecDepth 20000 in
set_option maxHeartbeats 16000000 in
theorem qloop2 (ns : List Int) (hns : ns.length < 2 ^ 62) (labs pl : List (List UInt8)) (nl : Nat) (hlab : labs.length = nl) (hnl : nl = 1 ∨ nl = 2) (hpl : pl.length = 2) (ps : Nat → List UInt8) (hpp : ∀ (q : Nat) (h : q < pl.length), pl[q] = ps q) (us : Nat → Int) (cs : Nat → List Cap) (Q : AE → St → Prop)
    (hQ : ∀ (r : Nat) (us : Nat → Int) (cs : Nat → List Cap), (∀ q, q < 2 → cs q = List.replicate nl W0 ∧ 1 ≤ us q ∧ us q ≤ 1000000) → Q (.exit 0) ⟨[(1, .sl false 1 (ns.map I64)), (4, .ref 0 0 0), (6, .ref 1 0 0), (7, .sl false 1 (pl.map AV.str)), (8, .int .i64 (2 : Int)), (40, .bool false)], [.box [.nils, .nils], .box [.sl false 1 (labs.map AV.str), .own 2 3 0 2], .box ([.str (ps 0), .own 3 2 0 nl, .int .i64 (us 0), .str (ps 1), .own 4 2 0 nl, .int .i64 (us 1)] ++ List.replicate r AV.any), .arr 2 ((cs 0).map CAP), .arr 2 ((cs 1).map CAP)]⟩) (s0 : St) (hs0 : Sub 0 (keepK (some [1, 4, 6, 7, 8]) s0) ⟨[(1, .sl false 1 (ns.map I64)), (4, .ref 0 0 0), (6, .ref 1 0 0), (7, .sl false 1 (pl.map AV.str)), (8, .int .i64 (((0 : Nat) : Int) : Int))], PQ2 labs nl ps 0 us cs 0⟩) :
    aw Tryd.prog (.loop 0 (some [1, 4, 6, 7, 8]) cc10l5) Q s0 := by
  refine aw_loopS (σ := Nat × Nat × (Nat → Int) × (Nat → List Cap)) (fun q => ⟨[(1, .sl false 1 (ns.map I64)), (4, .ref 0 0 0), (6, .ref 1 0 0), (7, .sl false 1 (pl.map AV.str)), (8, .int .i64 (q.1 : Int))], PQ2 labs nl ps q.2.1 q.2.2.1 q.2.2.2 q.1⟩) (fun q => q.1 ≤ 2 ∧ ∀ w, w < q.1 → q.2.2.2 w = List.replicate nl W0 ∧ 1 ≤ q.2.2.1 w ∧ q.2.2.1 w ≤ 1000000) (fun q => 2 - q.1) (0, 0, us, cs) hs0 ⟨by simp, fun w hw => by simp at hw⟩ ?_
  rintro ⟨i, r, us, cs⟩ ⟨hi, hcs⟩
  simp only at hi hcs ⊢
  rcases (by omega : i = 0 ∨ i = 1 ∨ i = 2) with rfl | rfl | rfl
  · refine qstep0 ns hns labs pl nl r hlab hnl (by omega) ps us cs _ fun u r' hu1 hu2 => ?_
    refine ⟨(1, r', (fun q => if q = 0 then u else us q), fun q => if q = 0 then List.replicate nl W0 else cs q), ?_, ⟨by simp only; omega, fun q hq => ?_⟩, by simp only; omega⟩
    · simp only [hpp, PQ2, ↓reduceIte, Nat.reduceEqDiff, Nat.one_ne_zero, Nat.zero_ne_one]
      generalize List.replicate nl W0 = W
      (refine Sub.ofL [some 0, some 1, some 5, some 3] rfl (by simp) (by decide) (by simp [partL, AO.ro, AV.ro, AV.roL, names, AO.empty, SB, U8, SI, I64, STR] <;> (try and_intros) <;> rfl) (by simp [AO.bo, AV.bo, AV.boL, names] <;> (try and_intros) <;> rfl) ?_ <;> (try simp only [List.map_cons, List.map_nil, regsL, AV.ro, AV.roL, AV.bo, AV.boL, names, get_here, get_there, Nat.reduceBEq, List.getD_cons_zero, List.getD_cons_succ, List.getD_nil, and_true, true_and, Nat.reduceLT, List.length_cons, List.length_nil, Nat.reduceAdd, decide_true, Option.isSome_some, Bool.true_or, Bool.and_self, Option.isSome_none, Bool.false_or, beq_self_eq_true, wk0_self, wk0_nils]) <;> (try and_intros) <;> (first | done | rfl | exact .inl rfl | exact .inr ⟨rfl, _, _, rfl⟩ | (simp; done) | (simp; omega) | (refine .inl ?_; simp; done) | (refine .inl ?_; simp; omega)))
    · simp only
      by_cases hqi : q = 0
      · simp only [hqi, if_true]; exact ⟨trivial, hu1, hu2⟩
      · simp only [if_neg hqi]; exact hcs q (by simp only at hq; omega)
  · refine qstep1 ns hns labs pl nl r hlab hnl (by omega) ps us cs _ fun u r' hu1 hu2 => ?_
    refine ⟨(2, r', (fun q => if q = 1 then u else us q), fun q => if q = 1 then List.replicate nl W0 else cs q), ?_, ⟨by simp only; omega, fun q hq => ?_⟩, by simp only; omega⟩
    · simp only [hpp, PQ2, ↓reduceIte, Nat.reduceEqDiff, Nat.one_ne_zero, Nat.zero_ne_one]
      generalize List.replicate nl W0 = W
      (refine Sub.ofL [some 0, some 1, some 7, some 3, some 5] rfl (by simp) (by decide) (by simp [partL, AO.ro, AV.ro, AV.roL, names, AO.empty, SB, U8, SI, I64, STR] <;> (try and_intros) <;> rfl) (by simp [AO.bo, AV.bo, AV.boL, names] <;> (try and_intros) <;> rfl) ?_ <;> (try simp only [List.map_cons, List.map_nil, regsL, AV.ro, AV.roL, AV.bo, AV.boL, names, get_here, get_there, Nat.reduceBEq, List.getD_cons_zero, List.getD_cons_succ, List.getD_nil, and_true, true_and, Nat.reduceLT, List.length_cons, List.length_nil, Nat.reduceAdd, decide_true, Option.isSome_some, Bool.true_or, Bool.and_self, Option.isSome_none, Bool.false_or, beq_self_eq_true, wk0_self, wk0_nils]) <;> (try and_intros) <;> (first | done | rfl | exact .inl rfl | exact .inr ⟨rfl, _, _, rfl⟩ | (simp; done) | (simp; omega) | (refine .inl ?_; simp; done) | (refine .inl ?_; simp; omega)))
    · simp only
      by_cases hqi : q = 1
      · simp only [hqi, if_true]; exact ⟨trivial, hu1, hu2⟩
      · simp only [if_neg hqi]; exact hcs q (by simp only at hq; omega)
  · unfold cc10l5 PQ2
    simp -implicitDefEqProofs (maxSteps := 500000) (disch := first | decide | omega) only [↓preS, allS, decS, simprocAttr, hpl]
    exact hQ r us cs hcs
def PQ3 (labs : List (List UInt8)) (nl : Nat) (ps : Nat → List UInt8) (r : Nat) (us : Nat → Int) (cs : Nat → List Cap) : Nat → List AO
  | 0 => [.box [.nils, .nils], .box [.sl false 1 (labs.map AV.str), .nils]]
  | 1 => [.box [.nils, .nils], .box [.sl false 1 (labs.map AV.str), .own 2 3 0 1], .box ([.str (ps 0), .own 3 2 0 nl, .int .i64 (us 0)] ++ List.replicate r AV.any), .arr 2 ((cs 0).map CAP)]
  | 2 => [.box [.nils, .nils], .box [.sl false 1 (labs.map AV.str), .own 2 3 0 2], .box ([.str (ps 0), .own 3 2 0 nl, .int .i64 (us 0), .str (ps 1), .own 4 2 0 nl, .int .i64 (us 1)] ++ List.replicate r AV.any), .arr 2 ((cs 0).map CAP), .arr 2 ((cs 1).map CAP)]
  | _ => [.box [.nils, .nils], .box [.sl false 1 (labs.map AV.str), .own 2 3 0 3], .box ([.str (ps 0), .own 3 2 0 nl, .int .i64 (us 0), .str (ps 1), .own 4 2 0 nl, .int .i64 (us 1), .str (ps 2), .own 5 2 0 nl, .int .i64 (us 2)] ++ List.replicate r AV.any), .arr 2 ((cs 0).map CAP), .arr 2 ((cs 1).map CAP), .arr 2 ((cs 2).map CAP)]
set_option maxRecDepth 20000 in
set_option maxHeartbeats 16000000 in
theorem qloop3 (ns : List Int) (hns : ns.length < 2 ^ 62) (labs pl : List (List UInt8)) (nl : Nat) (hlab : labs.length = nl) (hnl : nl = 1 ∨ nl = 2) (hpl : pl.length = 3) (ps : Nat → List UInt8) (hpp : ∀ (q : Nat) (h : q < pl.length), pl[q] = ps q) (us : Nat → Int) (cs : Nat → List Cap) (Q : AE → St → Prop)
    (hQ : ∀ (r : Nat) (us : Nat → Int) (cs : Nat → List Cap), (∀ q, q < 3 → cs q = List.replicate nl W0 ∧ 1 ≤ us q ∧ us q ≤ 1000000) → Q (.exit 0) ⟨[(1, .sl false 1 (ns.map I64)), (4, .ref 0 0 0), (6, .ref 1 0 0), (7, .sl false 1 (pl.map AV.str)), (8, .int .i64 (3 : Int)), (40, .bool false)], [.box [.nils, .nils], .box [.sl false 1 (labs.map AV.str), .own 2 3 0 3], .box ([.str (ps 0), .own 3 2 0 nl, .int .i64 (us 0), .str (ps 1), .own 4 2 0 nl, .int .i64 (us 1), .str (ps 2), .own 5 2 0 nl, .int .i64 (us 2)] ++ List.replicate r AV.any), .arr 2 ((cs 0).map CAP), .arr 2 ((cs 1).map CAP), .arr 2 ((cs 2).map CAP)]⟩) (s0 : St) (hs0 : Sub 0 (keepK (some [1, 4, 6, 7, 8]) s0) ⟨[(1, .sl false 1 (ns.map I64)), (4, .ref 0 0 0), (6, .ref 1 0 0), (7, .sl false 1 (pl.map AV.str)), (8, .int .i64 (((0 : Nat) : Int) : Int))], PQ3 labs nl ps 0 us cs 0⟩) :
    aw Tryd.prog (.loop 0 (some [1, 4, 6, 7, 8]) cc10l5) Q s0 := by
  refine aw_loopS (σ := Nat × Nat × (Nat → Int) × (Nat → List Cap)) (fun q => ⟨[(1, .sl false 1 (ns.map I64)), (4, .ref 0 0 0), (6, .ref 1 0 0), (7, .sl false 1 (pl.map AV.str)), (8, .int .i64 (q.1 : Int))], PQ3 labs nl ps q.2.1 q.2.2.1 q.2.2.2 q.1⟩) (fun q => q.1 ≤ 3 ∧ ∀ w, w < q.1 → q.2.2.2 w = List.replicate nl W0 ∧ 1 ≤ q.2.2.1 w ∧ q.2.2.1 w ≤ 1000000) (fun q => 3 - q.1) (0, 0, us, cs) hs0 ⟨by simp, fun w hw => by simp at hw⟩ ?_
  rintro ⟨i, r, us, cs⟩ ⟨hi, hcs⟩
  simp only at hi hcs ⊢
  rcases (by omega : i = 0 ∨ i = 1 ∨ i = 2 ∨ i = 3) with rfl | rfl | rfl | rfl
  · refine qstep0 ns hns labs pl nl r hlab hnl (by omega) ps us cs _ fun u r' hu1 hu2 => ?_
    refine ⟨(1, r', (fun q => if q = 0 then u else us q), fun q => if q = 0 then List.replicate nl W0 else cs q), ?_, ⟨by simp only; omega, fun q hq => ?_⟩, by simp only; omega⟩
    · simp only [hpp, PQ3, ↓reduceIte, Nat.reduceEqDiff, Nat.one_ne_zero, Nat.zero_ne_one]
      generalize List.replicate nl W0 = W
      (refine Sub.ofL [some 0, some 1, some 5, some 3] rfl (by simp) (by decide) (by simp [partL, AO.ro, AV.ro, AV.roL, names, AO.empty, SB, U8, SI, I64, STR] <;> (try and_intros) <;> rfl) (by simp [AO.bo, AV.bo, AV.boL, names] <;> (try and_intros) <;> rfl) ?_ <;> (try simp only [List.map_cons, List.map_nil, regsL, AV.ro, AV.roL, AV.bo, AV.boL, names, get_here, get_there, Nat.reduceBEq, List.getD_cons_zero, List.getD_cons_succ, List.getD_nil, and_true, true_and, Nat.reduceLT, List.length_cons, List.length_nil, Nat.reduceAdd, decide_true, Option.isSome_some, Bool.true_or, Bool.and_self, Option.isSome_none, Bool.false_or, beq_self_eq_true, wk0_self, wk0_nils]) <;> (try and_intros) <;> (first | done | rfl | exact .inl rfl | exact .inr ⟨rfl, _, _, rfl⟩ | (simp; done) | (simp; omega) | (refine .inl ?_; simp; done) | (refine .inl ?_; simp; omega)))
    · simp only
      by_cases hqi : q = 0
      · simp only [hqi, if_true]; exact ⟨trivial, hu1, hu2⟩
      · simp only [if_neg hqi]; exact hcs q (by simp only at hq; omega)
  · refine qstep1 ns hns labs pl nl r hlab hnl (by omega) ps us cs _ fun u r' hu1 hu2 => ?_
    refine ⟨(2, r', (fun q => if q = 1 then u else us q), fun q => if q = 1 then List.replicate nl W0 else cs q), ?_, ⟨by simp only; omega, fun q hq => ?_⟩, by simp only; omega⟩
    · simp only [hpp, PQ3, ↓reduceIte, Nat.reduceEqDiff, Nat.one_ne_zero, Nat.zero_ne_one]
      generalize List.replicate nl W0 = W
      (refine Sub.ofL [some 0, some 1, some 7, some 3, some 5] rfl (by simp) (by decide) (by simp [partL, AO.ro, AV.ro, AV.roL, names, AO.empty, SB, U8, SI, I64, STR] <;> (try and_intros) <;> rfl) (by simp [AO.bo, AV.bo, AV.boL, names] <;> (try and_intros) <;> rfl) ?_ <;> (try simp only [List.map_cons, List.map_nil, regsL, AV.ro, AV.roL, AV.bo, AV.boL, names, get_here, get_there, Nat.reduceBEq, List.getD_cons_zero, List.getD_cons_succ, List.getD_nil, and_true, true_and, Nat.reduceLT, List.length_cons, List.length_nil, Nat.reduceAdd, decide_true, Option.isSome_some, Bool.true_or, Bool.and_self, Option.isSome_none, Bool.false_or, beq_self_eq_true, wk0_self, wk0_nils]) <;> (try and_intros) <;> (first | done | rfl | exact .inl rfl | exact .inr ⟨rfl, _, _, rfl⟩ | (simp; done) | (simp; omega) | (refine .inl ?_; simp; done) | (refine .inl ?_; simp; omega)))
    · simp only
      by_cases hqi : q = 1
      · simp only [hqi, if_true]; exact ⟨trivial, hu1, hu2⟩
      · simp only [if_neg hqi]; exact hcs q (by simp only at hq; omega)
  · refine qstep2 ns hns labs pl nl r hlab hnl (by omega) ps us cs _ fun u r' hu1 hu2 => ?_
    refine ⟨(3, r', (fun q => if q = 2 then u else us q), fun q => if q = 2 then List.replicate nl W0 else cs q), ?_, ⟨by simp only; omega, fun q hq => ?_⟩, by simp only; omega⟩
    · simp only [hpp, PQ3, ↓reduceIte, Nat.reduceEqDiff, Nat.one_ne_zero, Nat.zero_ne_one]
      generalize List.replicate nl W0 = W
      (refine Sub.ofL [some 0, some 1, some 8, some 3, some 4, some 6] rfl (by simp) (by decide) (by simp [partL, AO.ro, AV.ro, AV.roL, names, AO.empty, SB, U8, SI, I64, STR] <;> (try and_intros) <;> rfl) (by simp [AO.bo, AV.bo, AV.boL, names] <;> (try and_intros) <;> rfl) ?_ <;> (try simp only [List.map_cons, List.map_nil, regsL, AV.ro, AV.roL, AV.bo, AV.boL, names, get_here, get_there, Nat.reduceBEq, List.getD_cons_zero, List.getD_cons_succ, List.getD_nil, and_true, true_and, Nat.reduceLT, List.length_cons, List.length_nil, Nat.reduceAdd, decide_true, Option.isSome_some, Bool.true_or, Bool.and_self, Option.isSome_none, Bool.false_or, beq_self_eq_true, wk0_self, wk0_nils]) <;> (try and_intros) <;> (first | done | rfl | exact .inl rfl | exact .inr ⟨rfl, _, _, rfl⟩ | (simp; done) | (simp; omega) | (refine .inl ?_; simp; done) | (refine .inl ?_; simp; omega)))
    · simp only
      by_cases hqi : q = 2
      · simp only [hqi, if_true]; exact ⟨trivial, hu1, hu2⟩
      · simp only [if_neg hqi]; exact hcs q (by simp only at hq; omega)
  · unfold cc10l5 PQ3
    simp -implicitDefEqProofs (maxSteps := 500000) (disch := first | decide | omega) only [↓preS, allS, decS, simprocAttr, hpl]
    exact hQ r us cs hcs
def PQ5 (labs : List (List UInt8)) (nl : Nat) (ps : Nat → List UInt8) (r : Nat) (us : Nat → Int) (cs : Nat → List Cap) : Nat → List AO
  | 0 => [.box [.nils, .nils], .box [.sl false 1 (labs.map AV.str), .nils]]
  | 1 => [.box [.nils, .nils], .box [.sl false 1 (labs.map AV.str), .own 2 3 0 1], .box ([.str (ps 0), .own 3 2 0 nl, .int .i64 (us 0)] ++ List.replicate r AV.any), .arr 2 ((cs 0).map CAP)]
  | 2 => [.box [.nils, .nils], .box [.sl false 1 (labs.map AV.str), .own 2 3 0 2], .box ([.str (ps 0), .own 3 2 0 nl, .int .i64 (us 0), .str (ps 1), .own 4 2 0 nl, .int .i64 (us 1)] ++ List.replicate r AV.any), .arr 2 ((cs 0).map CAP), .arr 2 ((cs 1).map CAP)]
  | 3 => [.box [.nils, .nils], .box [.sl false 1 (labs.map AV.str), .own 2 3 0 3], .box ([.str (ps 0), .own 3 2 0 nl, .int .i64 (us 0), .str (ps 1), .own 4 2 0 nl, .int .i64 (us 1), .str (ps 2), .own 5 2 0 nl, .int .i64 (us 2)] ++ List.replicate r AV.any), .arr 2 ((cs 0).map CAP), .arr 2 ((cs 1).map CAP), .arr 2 ((cs 2).map CAP)]
  | 4 => [.box [.nils, .nils], .box [.sl false 1 (labs.map AV.str), .own 2 3 0 4], .box ([.str (ps 0), .own 3 2 0 nl, .int .i64 (us 0), .str (ps 1), .own 4 2 0 nl, .int .i64 (us 1), .str (ps 2), .own 5 2 0 nl, .int .i64 (us 2), .str (ps 3), .own 6 2 0 nl, .int .i64 (us 3)] ++ List.replicate r AV.any), .arr 2 ((cs 0).map CAP), .arr 2 ((cs 1).map CAP), .arr 2 ((cs 2).map CAP), .arr 2 ((cs 3).map CAP)]
  | _ => [.box [.nils, .nils], .box [.sl false 1 (labs.map AV.str), .own 2 3 0 5], .box ([.str (ps 0), .own 3 2 0 nl, .int .i64 (us 0), .str (ps 1), .own 4 2 0 nl, .int .i64 (us 1), .str (ps 2), .own 5 2 0 nl, .int .i64 (us 2), .str (ps 3), .own 6 2 0 nl, .int .i64 (us 3), .str (ps 4), .own 7 2 0 nl, .int .i64 (us 4)] ++ List.replicate r AV.any), .arr 2 ((cs 0).map CAP), .arr 2 ((cs 1).map CAP), .arr 2 ((cs 2).map CAP), .arr 2 ((cs 3).map CAP), .arr 2 ((cs 4).map CAP)]
set_option maxRecDepth 20000 in
set_option maxHeartbeats 16000000 in
theorem qloop5 (ns : List Int) (hns : ns.length < 2 ^ 62) (labs pl : List (List UInt8)) (nl : Nat) (hlab : labs.length = nl) (hnl : nl = 1 ∨ nl = 2) (hpl : pl.length = 5) (ps : Nat → List UInt8) (hpp : ∀ (q : Nat) (h : q < pl.length), pl[q] = ps q) (us : Nat → Int) (cs : Nat → List Cap) (Q : AE → St → Prop)
    (hQ : ∀ (r : Nat) (us : Nat → Int) (cs : Nat → List Cap), (∀ q, q < 5 → cs q = List.replicate nl W0 ∧ 1 ≤ us q ∧ us q ≤ 1000000) → Q (.exit 0) ⟨[(1, .sl false 1 (ns.map I64)), (4, .ref 0 0 0), (6, .ref 1 0 0), (7, .sl false 1 (pl.map AV.str)), (8, .int .i64 (5 : Int)), (40, .bool false)], [.box [.nils, .nils], .box [.sl false 1 (labs.map AV.str), .own 2 3 0 5], .box ([.str (ps 0), .own 3 2 0 nl, .int .i64 (us 0), .str (ps 1), .own 4 2 0 nl, .int .i64 (us 1), .str (ps 2), .own 5 2 0 nl, .int .i64 (us 2), .str (ps 3), .own 6 2 0 nl, .int .i64 (us 3), .str (ps 4), .own 7 2 0 nl, .int .i64 (us 4)] ++ List.replicate r AV.any), .arr 2 ((cs 0).map CAP), .arr 2 ((cs 1).map CAP), .arr 2 ((cs 2).map CAP), .arr 2 ((cs 3).map CAP), .arr 2 ((cs 4).map CAP)]⟩) (s0 : St) (hs0 : Sub 0 (keepK (some [1, 4, 6, 7, 8]) s0) ⟨[(1, .sl false 1 (ns.map I64)), (4, .ref 0 0 0), (6, .ref 1 0 0), (7, .sl false 1 (pl.map AV.str)), (8, .int .i64 (((0 : Nat) : Int) : Int))], PQ5 labs nl ps 0 us cs 0⟩) :
    aw Tryd.prog (.loop 0 (some [1, 4, 6, 7, 8]) cc10l5) Q s0 := by
  refine aw_loopS (σ := Nat × Nat × (Nat → Int) × (Nat → List Cap)) (fun q => ⟨[(1, .sl false 1 (ns.map I64)), (4, .ref 0 0 0), (6, .ref 1 0 0), (7, .sl false 1 (pl.map AV.str)), (8, .int .i64 (q.1 : Int))], PQ5 labs nl ps q.2.1 q.2.2.1 q.2.2.2 q.1⟩) (fun q => q.1 ≤ 5 ∧ ∀ w, w < q.1 → q.2.2.2 w = List.replicate nl W0 ∧ 1 ≤ q.2.2.1 w ∧ q.2.2.1 w ≤ 1000000) (fun q => 5 - q.1) (0, 0, us, cs) hs0 ⟨by simp, fun w hw => by simp at hw⟩ ?_
  rintro ⟨i, r, us, cs⟩ ⟨hi, hcs⟩
  simp only at hi hcs ⊢
  rcases (by omega : i = 0 ∨ i = 1 ∨ i = 2 ∨ i = 3 ∨ i = 4 ∨ i = 5) with rfl | rfl | rfl | rfl | rfl | rfl
  · refine qstep0 ns hns labs pl nl r hlab hnl (by omega) ps us cs _ fun u r' hu1 hu2 => ?_
    refine ⟨(1, r', (fun q => if q = 0 then u else us q), fun q => if q = 0 then List.replicate nl W0 else cs q), ?_, ⟨by simp only; omega, fun q hq => ?_⟩, by simp only; omega⟩
    · simp only [hpp, PQ5, ↓reduceIte, Nat.reduceEqDiff, Nat.one_ne_zero, Nat.zero_ne_one]
      generalize List.replicate nl W0 = W
      (refine Sub.ofL [some 0, some 1, some 5, some 3] rfl (by simp) (by decide) (by simp [partL, AO.ro, AV.ro, AV.roL, names, AO.empty, SB, U8, SI, I64, STR] <;> (try and_intros) <;> rfl) (by simp [AO.bo, AV.bo, AV.boL, names] <;> (try and_intros) <;> rfl) ?_ <;> (try simp only [List.map_cons, List.map_nil, regsL, AV.ro, AV.roL, AV.bo, AV.boL, names, get_here, get_there, Nat.reduceBEq, List.getD_cons_zero, List.getD_cons_succ, List.getD_nil, and_true, true_and, Nat.reduceLT, List.length_cons, List.length_nil, Nat.reduceAdd, decide_true, Option.isSome_some, Bool.true_or, Bool.and_self, Option.isSome_none, Bool.false_or, beq_self_eq_true, wk0_self, wk0_nils]) <;> (try and_intros) <;> (first | done | rfl | exact .inl rfl | exact .inr ⟨rfl, _, _, rfl⟩ | (simp; done) | (simp; omega) | (refine .inl ?_; simp; done) | (refine .inl ?_; simp; omega)))
    · simp only
      by_cases hqi : q = 0
      · simp only [hqi, if_true]; exact ⟨trivial, hu1, hu2⟩
      · simp only [if_neg hqi]; exact hcs q (by simp only at hq; omega)
  · refine qstep1 ns hns labs pl nl r hlab hnl (by omega) ps us cs _ fun u r' hu1 hu2 => ?_
    refine ⟨(2, r', (fun q => if q = 1 then u else us q), fun q => if q = 1 then List.replicate nl W0 else cs q), ?_, ⟨by simp only; omega, fun q hq => ?_⟩, by simp only; omega⟩
    · simp only [hpp, PQ5, ↓reduceIte, Nat.reduceEqDiff, Nat.one_ne_zero, Nat.zero_ne_one]
      generalize List.replicate nl W0 = W
      (refine Sub.ofL [some 0, some 1, some 7, some 3, some 5] rfl (by simp) (by decide) (by simp [partL, AO.ro, AV.ro, AV.roL, names, AO.empty, SB, U8, SI, I64, STR] <;> (try and_intros) <;> rfl) (by simp [AO.bo, AV.bo, AV.boL, names] <;> (try and_intros) <;> rfl) ?_ <;> (try simp only [List.map_cons, List.map_nil, regsL, AV.ro, AV.roL, AV.bo, AV.boL, names, get_here, get_there, Nat.reduceBEq, List.getD_cons_zero, List.getD_cons_succ, List.getD_nil, and_true, true_and, Nat.reduceLT, List.length_cons, List.length_nil, Nat.reduceAdd, decide_true, Option.isSome_some, Bool.true_or, Bool.and_self, Option.isSome_none, Bool.false_or, beq_self_eq_true, wk0_self, wk0_nils]) <;> (try and_intros) <;> (first | done | rfl | exact .inl rfl | exact .inr ⟨rfl, _, _, rfl⟩ | (simp; done) | (simp; omega) | (refine .inl ?_; simp; done) | (refine .inl ?_; simp; omega)))
    · simp only
      by_cases hqi : q = 1
      · simp only [hqi, if_true]; exact ⟨trivial, hu1, hu2⟩
      · simp only [if_neg hqi]; exact hcs q (by simp only at hq; omega)
  · refine qstep2 ns hns labs pl nl r hlab hnl (by omega) ps us cs _ fun u r' hu1 hu2 => ?_
    refine ⟨(3, r', (fun q => if q = 2 then u else us q), fun q => if q = 2 then List.replicate nl W0 else cs q), ?_, ⟨by simp only; omega, fun q hq => ?_⟩, by simp only; omega⟩
    · simp only [hpp, PQ5, ↓reduceIte, Nat.reduceEqDiff, Nat.one_ne_zero, Nat.zero_ne_one]
      generalize List.replicate nl W0 = W
      (refine Sub.ofL [some 0, some 1, some 8, some 3, some 4, some 6] rfl (by simp) (by decide) (by simp [partL, AO.ro, AV.ro, AV.roL, names, AO.empty, SB, U8, SI, I64, STR] <;> (try and_intros) <;> rfl) (by simp [AO.bo, AV.bo, AV.boL, names] <;> (try and_intros) <;> rfl) ?_ <;> (try simp only [List.map_cons, List.map_nil, regsL, AV.ro, AV.roL, AV.bo, AV.boL, names, get_here, get_there, Nat.reduceBEq, List.getD_cons_zero, List.getD_cons_succ, List.getD_nil, and_true, true_and, Nat.reduceLT, List.length_cons, List.length_nil, Nat.reduceAdd, decide_true, Option.isSome_some, Bool.true_or, Bool.and_self, Option.isSome_none, Bool.false_or, beq_self_eq_true, wk0_self, wk0_nils]) <;> (try and_intros) <;> (first | done | rfl | exact .inl rfl | exact .inr ⟨rfl, _, _, rfl⟩ | (simp; done) | (simp; omega) | (refine .inl ?_; simp; done) | (refine .inl ?_; simp; omega)))
    · simp only
      by_cases hqi : q = 2
      · simp only [hqi, if_true]; exact ⟨trivial, hu1, hu2⟩
      · simp only [if_neg hqi]; exact hcs q (by simp only at hq; omega)
  · refine qstep3 ns hns labs pl nl r hlab hnl (by omega) ps us cs _ fun u r' hu1 hu2 => ?_
    refine ⟨(4, r', (fun q => if q = 3 then u else us q), fun q => if q = 3 then List.replicate nl W0 else cs q), ?_, ⟨by simp only; omega, fun q hq => ?_⟩, by simp only; omega⟩
    · simp only [hpp, PQ5, ↓reduceIte, Nat.reduceEqDiff, Nat.one_ne_zero, Nat.zero_ne_one]
      generalize List.replicate nl W0 = W
      (refine Sub.ofL [some 0, some 1, some 9, some 3, some 4, some 5, some 7] rfl (by simp) (by decide) (by simp [partL, AO.ro, AV.ro, AV.roL, names, AO.empty, SB, U8, SI, I64, STR] <;> (try and_intros) <;> rfl) (by simp [AO.bo, AV.bo, AV.boL, names] <;> (try and_intros) <;> rfl) ?_ <;> (try simp only [List.map_cons, List.map_nil, regsL, AV.ro, AV.roL, AV.bo, AV.boL, names, get_here, get_there, Nat.reduceBEq, List.getD_cons_zero, List.getD_cons_succ, List.getD_nil, and_true, true_and, Nat.reduceLT, List.length_cons, List.length_nil, Nat.reduceAdd, decide_true, Option.isSome_some, Bool.true_or, Bool.and_self, Option.isSome_none, Bool.false_or, beq_self_eq_true, wk0_self, wk0_nils]) <;> (try and_intros) <;> (first | done | rfl | exact .inl rfl | exact .inr ⟨rfl, _, _, rfl⟩ | (simp; done) | (simp; omega) | (refine .inl ?_; simp; done) | (refine .inl ?_; simp; omega)))
    · simp only
      by_cases hqi : q = 3
      · simp only [hqi, if_true]; exact ⟨trivial, hu1, hu2⟩
      · simp only [if_neg hqi]; exact hcs q (by simp only at hq; omega)
  · refine qstep4 ns hns labs pl nl r hlab hnl (by omega) ps us cs _ fun u r' hu1 hu2 => ?_
    refine ⟨(5, r', (fun q => if q = 4 then u else us q), fun q => if q = 4 then List.replicate nl W0 else cs q), ?_, ⟨by simp only; omega, fun q hq => ?_⟩, by simp only; omega⟩
    · simp only [hpp, PQ5, ↓reduceIte, Nat.reduceEqDiff, Nat.one_ne_zero, Nat.zero_ne_one]
      generalize List.replicate nl W0 = W
      (refine Sub.ofL [some 0, some 1, some 10, some 3, some 4, some 5, some 6, some 8] rfl (by simp) (by decide) (by simp [partL, AO.ro, AV.ro, AV.roL, names, AO.empty, SB, U8, SI, I64, STR] <;> (try and_intros) <;> rfl) (by simp [AO.bo, AV.bo, AV.boL, names] <;> (try and_intros) <;> rfl) ?_ <;> (try simp only [List.map_cons, List.map_nil, regsL, AV.ro, AV.roL, AV.bo, AV.boL, names, get_here, get_there, Nat.reduceBEq, List.getD_cons_zero, List.getD_cons_succ, List.getD_nil, and_true, true_and, Nat.reduceLT, List.length_cons, List.length_nil, Nat.reduceAdd, decide_true, Option.isSome_some, Bool.true_or, Bool.and_self, Option.isSome_none, Bool.false_or, beq_self_eq_true, wk0_self, wk0_nils]) <;> (try and_intros) <;> (first | done | rfl | exact .inl rfl | exact .inr ⟨rfl, _, _, rfl⟩ | (simp; done) | (simp; omega) | (refine .inl ?_; simp; done) | (refine .inl ?_; simp; omega)))
    · simp only
      by_cases hqi : q = 4
      · simp only [hqi, if_true]; exact ⟨trivial, hu1, hu2⟩
      · simp only [if_neg hqi]; exact hcs q (by simp only at hq; omega)
  · unfold cc10l5 PQ5
    simp -implicitDefEqProofs (maxSteps := 500000) (disch := first | decide | omega) only [↓preS, allS, decS, simprocAttr, hpl]
    exact hQ r us cs hcs
def PQ7 (labs : List (List UInt8)) (nl : Nat) (ps : Nat → List UInt8) (r : Nat) (us : Nat → Int) (cs : Nat → List Cap) : Nat → List AO
  | 0 => [.box [.nils, .nils], .box [.sl false 1 (labs.map AV.str), .nils]]
  | 1 => [.box [.nils, .nils], .box [.sl false 1 (labs.map AV.str), .own 2 3 0 1], .box ([.str (ps 0), .own 3 2 0 nl, .int .i64 (us 0)] ++ List.replicate r AV.any), .arr 2 ((cs 0).map CAP)]
  | 2 => [.box [.nils, .nils], .box [.sl false 1 (labs.map AV.str), .own 2 3 0 2], .box ([.str (ps 0), .own 3 2 0 nl, .int .i64 (us 0), .str (ps 1), .own 4 2 0 nl, .int .i64 (us 1)] ++ List.replicate r AV.any), .arr 2 ((cs 0).map CAP), .arr 2 ((cs 1).map CAP)]
  | 3 => [.box [.nils, .nils], .box [.sl false 1 (labs.map AV.str), .own 2 3 0 3], .box ([.str (ps 0), .own 3 2 0 nl, .int .i64 (us 0), .str (ps 1), .own 4 2 0 nl, .int .i64 (us 1), .str (ps 2), .own 5 2 0 nl, .int .i64 (us 2)] ++ List.replicate r AV.any), .arr 2 ((cs 0).map CAP), .arr 2 ((cs 1).map CAP), .arr 2 ((cs 2).map CAP)]
  | 4 => [.box [.nils, .nils], .box [.sl false 1 (labs.map AV.str), .own 2 3 0 4], .box ([.str (ps 0), .own 3 2 0 nl, .int .i64 (us 0), .str (ps 1), .own 4 2 0 nl, .int .i64 (us 1), .str (ps 2), .own 5 2 0 nl, .int .i64 (us 2), .str (ps 3), .own 6 2 0 nl, .int .i64 (us 3)] ++ List.replicate r AV.any), .arr 2 ((cs 0).map CAP), .arr 2 ((cs 1).map CAP), .arr 2 ((cs 2).map CAP), .arr 2 ((cs 3).map CAP)]
  | 5 => [.box [.nils, .nils], .box [.sl false 1 (labs.map AV.str), .own 2 3 0 5], .box ([.str (ps 0), .own 3 2 0 nl, .int .i64 (us 0), .str (ps 1), .own 4 2 0 nl, .int .i64 (us 1), .str (ps 2), .own 5 2 0 nl, .int .i64 (us 2), .str (ps 3), .own 6 2 0 nl, .int .i64 (us 3), .str (ps 4), .own 7 2 0 nl, .int .i64 (us 4)] ++ List.replicate r AV.any), .arr 2 ((cs 0).map CAP), .arr 2 ((cs 1).map CAP), .arr 2 ((cs 2).map CAP), .arr 2 ((cs 3).map CAP), .arr 2 ((cs 4).map CAP)]
  | 6 => [.box [.nils, .nils], .box [.sl false 1 (labs.map AV.str), .own 2 3 0 6], .box ([.str (ps 0), .own 3 2 0 nl, .int .i64 (us 0), .str (ps 1), .own 4 2 0 nl, .int .i64 (us 1), .str (ps 2), .own 5 2 0 nl, .int .i64 (us 2), .str (ps 3), .own 6 2 0 nl, .int .i64 (us 3), .str (ps 4), .own 7 2 0 nl, .int .i64 (us 4), .str (ps 5), .own 8 2 0 nl, .int .i64 (us 5)] ++ List.replicate r AV.any), .arr 2 ((cs 0).map CAP), .arr 2 ((cs 1).map CAP), .arr 2 ((cs 2).map CAP), .arr 2 ((cs 3).map CAP), .arr 2 ((cs 4).map CAP), .arr 2 ((cs 5).map CAP)]
  | _ => [.box [.nils, .nils], .box [.sl false 1 (labs.map AV.str), .own 2 3 0 7], .box ([.str (ps 0), .own 3 2 0 nl, .int .i64 (us 0), .str (ps 1), .own 4 2 0 nl, .int .i64 (us 1), .str (ps 2), .own 5 2 0 nl, .int .i64 (us 2), .str (ps 3), .own 6 2 0 nl, .int .i64 (us 3), .str (ps 4), .own 7 2 0 nl, .int .i64 (us 4), .str (ps 5), .own 8 2 0 nl, .int .i64 (us 5), .str (ps 6), .own 9 2 0 nl, .int .i64 (us 6)] ++ List.replicate r AV.any), .arr 2 ((cs 0).map CAP), .arr 2 ((cs 1).map CAP), .arr 2 ((cs 2).map CAP), .arr 2 ((cs 3).map CAP), .arr 2 ((cs 4).map CAP), .arr 2 ((cs 5).map CAP), .arr 2 ((cs 6).map CAP)]
set_option maxRecDepth 20000 in
set_option maxHeartbeats 16000000 in
theorem qloop7 (ns : List Int) (hns : ns.length < 2 ^ 62) (labs pl : List (List UInt8)) (nl : Nat) (hlab : labs.length = nl) (hnl : nl = 1 ∨ nl = 2) (hpl : pl.length = 7) (ps : Nat → List UInt8) (hpp : ∀ (q : Nat) (h : q < pl.length), pl[q] = ps q) (us : Nat → Int) (cs : Nat → List Cap) (Q : AE → St → Prop)
    (hQ : ∀ (r : Nat) (us : Nat → Int) (cs : Nat → List Cap), (∀ q, q < 7 → cs q = List.replicate nl W0 ∧ 1 ≤ us q ∧ us q ≤ 1000000) → Q (.exit 0) ⟨[(1, .sl false 1 (ns.map I64)), (4, .ref 0 0 0), (6, .ref 1 0 0), (7, .sl false 1 (pl.map AV.str)), (8, .int .i64 (7 : Int)), (40, .bool false)], [.box [.nils, .nils], .box [.sl false 1 (labs.map AV.str), .own 2 3 0 7], .box ([.str (ps 0), .own 3 2 0 nl, .int .i64 (us 0), .str (ps 1), .own 4 2 0 nl, .int .i64 (us 1), .str (ps 2), .own 5 2 0 nl, .int .i64 (us 2), .str (ps 3), .own 6 2 0 nl, .int .i64 (us 3), .str (ps 4), .own 7 2 0 nl, .int .i64 (us 4), .str (ps 5), .own 8 2 0 nl, .int .i64 (us 5), .str (ps 6), .own 9 2 0 nl, .int .i64 (us 6)] ++ List.replicate r AV.any), .arr 2 ((cs 0).map CAP), .arr 2 ((cs 1).map CAP), .arr 2 ((cs 2).map CAP), .arr 2 ((cs 3).map CAP), .arr 2 ((cs 4).map CAP), .arr 2 ((cs 5).map CAP), .arr 2 ((cs 6).map CAP)]⟩) (s0 : St) (hs0 : Sub 0 (keepK (some [1, 4, 6, 7, 8]) s0) ⟨[(1, .sl false 1 (ns.map I64)), (4, .ref 0 0 0), (6, .ref 1 0 0), (7, .sl false 1 (pl.map AV.str)), (8, .int .i64 (((0 : Nat) : Int) : Int))], PQ7 labs nl ps 0 us cs 0⟩) :
    aw Tryd.prog (.loop 0 (some [1, 4, 6, 7, 8]) cc10l5) Q s0 := by
  refine aw_loopS (σ := Nat × Nat × (Nat → Int) × (Nat → List Cap)) (fun q => ⟨[(1, .sl false 1 (ns.map I64)), (4, .ref 0 0 0), (6, .ref 1 0 0), (7, .sl false 1 (pl.map AV.str)), (8, .int .i64 (q.1 : Int))], PQ7 labs nl ps q.2.1 q.2.2.1 q.2.2.2 q.1⟩) (fun q => q.1 ≤ 7 ∧ ∀ w, w < q.1 → q.2.2.2 w = List.replicate nl W0 ∧ 1 ≤ q.2.2.1 w ∧ q.2.2.1 w ≤ 1000000) (fun q => 7 - q.1) (0, 0, us, cs) hs0 ⟨by simp, fun w hw => by simp at hw⟩ ?_
  rintro ⟨i, r, us, cs⟩ ⟨hi, hcs⟩
  simp only at hi hcs ⊢
  rcases (by omega : i = 0 ∨ i = 1 ∨ i = 2 ∨ i = 3 ∨ i = 4 ∨ i = 5 ∨ i = 6 ∨ i = 7) with rfl | rfl | rfl | rfl | rfl | rfl | rfl | rfl
  · refine qstep0 ns hns labs pl nl r hlab hnl (by omega) ps us cs _ fun u r' hu1 hu2 => ?_
    refine ⟨(1, r', (fun q => if q = 0 then u else us q), fun q => if q = 0 then List.replicate nl W0 else cs q), ?_, ⟨by simp only; omega, fun q hq => ?_⟩, by simp only; omega⟩
    · simp only [hpp, PQ7, ↓reduceIte, Nat.reduceEqDiff, Nat.one_ne_zero, Nat.zero_ne_one]
      generalize List.replicate nl W0 = W
      (refine Sub.ofL [some 0, some 1, some 5, some 3] rfl (by simp) (by decide) (by simp [partL, AO.ro, AV.ro, AV.roL, names, AO.empty, SB, U8, SI, I64, STR] <;> (try and_intros) <;> rfl) (by simp [AO.bo, AV.bo, AV.boL, names] <;> (try and_intros) <;> rfl) ?_ <;> (try simp only [List.map_cons, List.map_nil, regsL, AV.ro, AV.roL, AV.bo, AV.boL, names, get_here, get_there, Nat.reduceBEq, List.getD_cons_zero, List.getD_cons_succ, List.getD_nil, and_true, true_and, Nat.reduceLT, List.length_cons, List.length_nil, Nat.reduceAdd, decide_true, Option.isSome_some, Bool.true_or, Bool.and_self, Option.isSome_none, Bool.false_or, beq_self_eq_true, wk0_self, wk0_nils]) <;> (try and_intros) <;> (first | done | rfl | exact .inl rfl | exact .inr ⟨rfl, _, _, rfl⟩ | (simp; done) | (simp; omega) | (refine .inl ?_; simp; done) | (refine .inl ?_; simp; omega)))
    · simp only
      by_cases hqi : q = 0
      · simp only [hqi, if_true]; exact ⟨trivial, hu1, hu2⟩
      · simp only [if_neg hqi]; exact hcs q (by simp only at hq; omega)
  · refine qstep1 ns hns labs pl nl r hlab hnl (by omega) ps us cs _ fun u r' hu1 hu2 => ?_
    refine ⟨(2, r', (fun q => if q = 1 then u else us q), fun q => if q = 1 then List.replicate nl W0 else cs q), ?_, ⟨by simp only; omega, fun q hq => ?_⟩, by simp only; omega⟩
    · simp only [hpp, PQ7, ↓reduceIte, Nat.reduceEqDiff, Nat.one_ne_zero, Nat.zero_ne_one]
      generalize List.replicate nl W0 = W
      (refine Sub.ofL [some 0, some 1, some 7, some 3, some 5] rfl (by simp) (by decide) (by simp [partL, AO.ro, AV.ro, AV.roL, names, AO.empty, SB, U8, SI, I64, STR] <;> (try and_intros) <;> rfl) (by simp [AO.bo, AV.bo, AV.boL, names] <;> (try and_intros) <;> rfl) ?_ <;> (try simp only [List.map_cons, List.map_nil, regsL, AV.ro, AV.roL, AV.bo, AV.boL, names, get_here, get_there, Nat.reduceBEq, List.getD_cons_zero, List.getD_cons_succ, List.getD_nil, and_true, true_and, Nat.reduceLT, List.length_cons, List.length_nil, Nat.reduceAdd, decide_true, Option.isSome_some, Bool.true_or, Bool.and_self, Option.isSome_none, Bool.false_or, beq_self_eq_true, wk0_self, wk0_nils]) <;> (try and_intros) <;> (first | done | rfl | exact .inl rfl | exact .inr ⟨rfl, _, _, rfl⟩ | (simp; done) | (simp; omega) | (refine .inl ?_; simp; done) | (refine .inl ?_; simp; omega)))
    · simp only
      by_cases hqi : q = 1
      · simp only [hqi, if_true]; exact ⟨trivial, hu1, hu2⟩
      · simp only [if_neg hqi]; exact hcs q (by simp only at hq; omega)
  · refine qstep2 ns hns labs pl nl r hlab hnl (by omega) ps us cs _ fun u r' hu1 hu2 => ?_
    refine ⟨(3, r', (fun q => if q = 2 then u else us q), fun q => if q = 2 then List.replicate nl W0 else cs q), ?_, ⟨by simp only; omega, fun q hq => ?_⟩, by simp only; omega⟩
    · simp only [hpp, PQ7, ↓reduceIte, Nat.reduceEqDiff, Nat.one_ne_zero, Nat.zero_ne_one]
      generalize List.replicate nl W0 = W
      (refine Sub.ofL [some 0, some 1, some 8, some 3, some 4, some 6] rfl (by simp) (by decide) (by simp [partL, AO.ro, AV.ro, AV.roL, names, AO.empty, SB, U8, SI, I64, STR] <;> (try and_intros) <;> rfl) (by simp [AO.bo, AV.bo, AV.boL, names] <;> (try and_intros) <;> rfl) ?_ <;> (try simp only [List.map_cons, List.map_nil, regsL, AV.ro, AV.roL, AV.bo, AV.boL, names, get_here, get_there, Nat.reduceBEq, List.getD_cons_zero, List.getD_cons_succ, List.getD_nil, and_true, true_and, Nat.reduceLT, List.length_cons, List.length_nil, Nat.reduceAdd, decide_true, Option.isSome_some, Bool.true_or, Bool.and_self, Option.isSome_none, Bool.false_or, beq_self_eq_true, wk0_self, wk0_nils]) <;> (try and_intros) <;> (first | done | rfl | exact .inl rfl | exact .inr ⟨rfl, _, _, rfl⟩ | (simp; done) | (simp; omega) | (refine .inl ?_; simp; done) | (refine .inl ?_; simp; omega)))
    · simp only
      by_cases hqi : q = 2
      · simp only [hqi, if_true]; exact ⟨trivial, hu1, hu2⟩
      · simp only [if_neg hqi]; exact hcs q (by simp only at hq; omega)
  · refine qstep3 ns hns labs pl nl r hlab hnl (by omega) ps us cs _ fun u r' hu1 hu2 => ?_
    refine ⟨(4, r', (fun q => if q = 3 then u else us q), fun q => if q = 3 then List.replicate nl W0 else cs q), ?_, ⟨by simp only; omega, fun q hq => ?_⟩, by simp only; omega⟩
    · simp only [hpp, PQ7, ↓reduceIte, Nat.reduceEqDiff, Nat.one_ne_zero, Nat.zero_ne_one]
      generalize List.replicate nl W0 = W
      (refine Sub.ofL [some 0, some 1, some 9, some 3, some 4, some 5, some 7] rfl (by simp) (by decide) (by simp [partL, AO.ro, AV.ro, AV.roL, names, AO.empty, SB, U8, SI, I64, STR] <;> (try and_intros) <;> rfl) (by simp [AO.bo, AV.bo, AV.boL, names] <;> (try and_intros) <;> rfl) ?_ <;> (try simp only [List.map_cons, List.map_nil, regsL, AV.ro, AV.roL, AV.bo, AV.boL, names, get_here, get_there, Nat.reduceBEq, List.getD_cons_zero, List.getD_cons_succ, List.getD_nil, and_true, true_and, Nat.reduceLT, List.length_cons, List.length_nil, Nat.reduceAdd, decide_true, Option.isSome_some, Bool.true_or, Bool.and_self, Option.isSome_none, Bool.false_or, beq_self_eq_true, wk0_self, wk0_nils]) <;> (try and_intros) <;> (first | done | rfl | exact .inl rfl | exact .inr ⟨rfl, _, _, rfl⟩ | (simp; done) | (simp; omega) | (refine .inl ?_; simp; done) | (refine .inl ?_; simp; omega)))
    · simp only
      by_cases hqi : q = 3
      · simp only [hqi, if_true]; exact ⟨trivial, hu1, hu2⟩
      · simp only [if_neg hqi]; exact hcs q (by simp only at hq; omega)
  · refine qstep4 ns hns labs pl nl r hlab hnl (by omega) ps us cs _ fun u r' hu1 hu2 => ?_
    refine ⟨(5, r', (fun q => if q = 4 then u else us q), fun q => if q = 4 then List.replicate nl W0 else cs q), ?_, ⟨by simp only; omega, fun q hq => ?_⟩, by simp only; omega⟩
    · simp only [hpp, PQ7, ↓reduceIte, Nat.reduceEqDiff, Nat.one_ne_zero, Nat.zero_ne_one]
      generalize List.replicate nl W0 = W
      (refine Sub.ofL [some 0, some 1, some 10, some 3, some 4, some 5, some 6, some 8] rfl (by simp) (by decide) (by simp [partL, AO.ro, AV.ro, AV.roL, names, AO.empty, SB, U8, SI, I64, STR] <;> (try and_intros) <;> rfl) (by simp [AO.bo, AV.bo, AV.boL, names] <;> (try and_intros) <;> rfl) ?_ <;> (try simp only [List.map_cons, List.map_nil, regsL, AV.ro, AV.roL, AV.bo, AV.boL, names, get_here, get_there, Nat.reduceBEq, List.getD_cons_zero, List.getD_cons_succ, List.getD_nil, and_true, true_and, Nat.reduceLT, List.length_cons, List.length_nil, Nat.reduceAdd, decide_true, Option.isSome_some, Bool.true_or, Bool.and_self, Option.isSome_none, Bool.false_or, beq_self_eq_true, wk0_self, wk0_nils]) <;> (try and_intros) <;> (first | done | rfl | exact .inl rfl | exact .inr ⟨rfl, _, _, rfl⟩ | (simp; done) | (simp; omega) | (refine .inl ?_; simp; done) | (refine .inl ?_; simp; omega)))
    · simp only
      by_cases hqi : q = 4
      · simp only [hqi, if_true]; exact ⟨trivial, hu1, hu2⟩
      · simp only [if_neg hqi]; exact hcs q (by simp only at hq; omega)
  · refine qstep5 ns hns labs pl nl r hlab hnl (by omega) ps us cs _ fun u r' hu1 hu2 => ?_
    refine ⟨(6, r', (fun q => if q = 5 then u else us q), fun q => if q = 5 then List.replicate nl W0 else cs q), ?_, ⟨by simp only; omega, fun q hq => ?_⟩, by simp only; omega⟩
    · simp only [hpp, PQ7, ↓reduceIte, Nat.reduceEqDiff, Nat.one_ne_zero, Nat.zero_ne_one]
      generalize List.replicate nl W0 = W
      (refine Sub.ofL [some 0, some 1, some 11, some 3, some 4, some 5, some 6, some 7, some 9] rfl (by simp) (by decide) (by simp [partL, AO.ro, AV.ro, AV.roL, names, AO.empty, SB, U8, SI, I64, STR] <;> (try and_intros) <;> rfl) (by simp [AO.bo, AV.bo, AV.boL, names] <;> (try and_intros) <;> rfl) ?_ <;> (try simp only [List.map_cons, List.map_nil, regsL, AV.ro, AV.roL, AV.bo, AV.boL, names, get_here, get_there, Nat.reduceBEq, List.getD_cons_zero, List.getD_cons_succ, List.getD_nil, and_true, true_and, Nat.reduceLT, List.length_cons, List.length_nil, Nat.reduceAdd, decide_true, Option.isSome_some, Bool.true_or, Bool.and_self, Option.isSome_none, Bool.false_or, beq_self_eq_true, wk0_self, wk0_nils]) <;> (try and_intros) <;> (first | done | rfl | exact .inl rfl | exact .inr ⟨rfl, _, _, rfl⟩ | (simp; done) | (simp; omega) | (refine .inl ?_; simp; done) | (refine .inl ?_; simp; omega)))
    · simp only
      by_cases hqi : q = 5
      · simp only [hqi, if_true]; exact ⟨trivial, hu1, hu2⟩
      · simp only [if_neg hqi]; exact hcs q (by simp only at hq; omega)
  · refine qstep6 ns hns labs pl nl r hlab hnl (by omega) ps us cs _ fun u r' hu1 hu2 => ?_
    refine ⟨(7, r', (fun q => if q = 6 then u else us q), fun q => if q = 6 then List.replicate nl W0 else cs q), ?_, ⟨by simp only; omega, fun q hq => ?_⟩, by simp only; omega⟩
    · simp only [hpp, PQ7, ↓reduceIte, Nat.reduceEqDiff, Nat.one_ne_zero, Nat.zero_ne_one]
      generalize List.replicate nl W0 = W
      (refine Sub.ofL [some 0, some 1, some 12, some 3, some 4, some 5, some 6, some 7, some 8, some 10] rfl (by simp) (by decide) (by simp [partL, AO.ro, AV.ro, AV.roL, names, AO.empty, SB, U8, SI, I64, STR] <;> (try and_intros) <;> rfl) (by simp [AO.bo, AV.bo, AV.boL, names] <;> (try and_intros) <;> rfl) ?_ <;> (try simp only [List.map_cons, List.map_nil, regsL, AV.ro, AV.roL, AV.bo, AV.boL, names, get_here, get_there, Nat.reduceBEq, List.getD_cons_zero, List.getD_cons_succ, List.getD_nil, and_true, true_and, Nat.reduceLT, List.length_cons, List.length_nil, Nat.reduceAdd, decide_true, Option.isSome_some, Bool.true_or, Bool.and_self, Option.isSome_none, Bool.false_or, beq_self_eq_true, wk0_self, wk0_nils]) <;> (try and_intros) <;> (first | done | rfl | exact .inl rfl | exact .inr ⟨rfl, _, _, rfl⟩ | (simp; done) | (simp; omega) | (refine .inl ?_; simp; done) | (refine .inl ?_; simp; omega)))
    · simp only
      by_cases hqi : q = 6
      · simp only [hqi, if_true]; exact ⟨trivial, hu1, hu2⟩
      · simp only [if_neg hqi]; exact hcs q (by simp only at hq; omega)
  · unfold cc10l5 PQ7
    simp -implicitDefEqProofs (maxSteps := 500000) (disch := first | decide | omega) only [↓preS, allS, decS, simprocAttr, hpl]
    exact hQ r us cs hcs
end Go.Proofs.YtcplpegahpmnjaaDoor
