/- What functions of the program compute. No condition. -/
import Derived.Test.YtcplpegahpmnjaaDoorU24
set_option linter.unusedSimpArgs false
set_option linter.unusedVariables false
namespace Go.Proofs.YtcplpegahpmnjaaDoor
open Go Go.Ab
def W0 : Cap := ⟨10000, 10000⟩
def capT (p : List UInt8) (u : Int) (b : Nat) : Nat → List AO
  | 0 => [.box [.str p, .nils, .int .i64 u]]
  | k + 1 => [.box [.str p, .own (b + 1) 2 0 (k + 1), .int .i64 u], .arr 2 ((List.replicate (k + 1) W0).map CAP)]
set_option maxRecDepth 20000 in
set_option maxHeartbeats 16000000 in
theorem cloop0 (ns : List Int) (labs pl : List (List UInt8)) (nl r : Nat) (hlab : labs.length = nl) (hnl : nl = 1 ∨ nl = 2) (x8 u : Int) (p : List UInt8) (ps : Nat → List UInt8) (us : Nat → Int) (cs : Nat → List Cap) (Q : AE → St → Prop)
    (hQ : Q (.exit 2) ⟨[(1, .sl false 1 (ns.map I64)), (4, .ref 0 0 0), (6, .ref 1 0 0), (7, .sl false 1 (pl.map AV.str)), (8, .int .i64 x8), (9, .ref 2 0 0), (10, .int .i64 (nl : Int)), (71, .bool false)], [.box [.nils, .nils], .box [.sl false 1 (labs.map AV.str), .nils]] ++ capT p u 2 nl⟩) (s0 : St) (hs0 : Sub 0 (keepK (some [1, 4, 6, 7, 8, 9, 10]) s0) ⟨[(1, .sl false 1 (ns.map I64)), (4, .ref 0 0 0), (6, .ref 1 0 0), (7, .sl false 1 (pl.map AV.str)), (8, .int .i64 x8), (9, .ref 2 0 0), (10, .int .i64 (((0 : Nat) : Int) : Int))], [.box [.nils, .nils], .box [.sl false 1 (labs.map AV.str), .nils]] ++ capT p u 2 0⟩) :
    aw Tryd.prog (.loop 0 (some [1, 4, 6, 7, 8, 9, 10]) cc10l4) Q s0 := by
  refine aw_loopS (σ := Nat) (fun k => ⟨[(1, .sl false 1 (ns.map I64)), (4, .ref 0 0 0), (6, .ref 1 0 0), (7, .sl false 1 (pl.map AV.str)), (8, .int .i64 x8), (9, .ref 2 0 0), (10, .int .i64 (k : Int))], [.box [.nils, .nils], .box [.sl false 1 (labs.map AV.str), .nils]] ++ capT p u 2 k⟩) (fun k => k ≤ nl) (fun k => nl - k) 0 hs0 (by omega) ?_
  intro k hk
  unfold cc10l4
  rcases hnl with rfl | rfl
  · rcases (by omega : k = 0 ∨ k = 1) with rfl | rfl
    · simp only [capT]
      simp -implicitDefEqProofs (maxSteps := 500000) (disch := first | decide | omega) only [↓preS, allS, decS, simprocAttr, fillOk, fillAV, List.append_nil]
      refine ⟨1, ?_, by omega, by omega⟩
      simp only [capT, List.replicate, List.map_cons, List.map_nil]
      (refine Sub.ofL [some 0, some 1, some 2, some 4] rfl (by simp) (by decide) (by simp [partL, AO.ro, AV.ro, AV.roL, names, AO.empty, SB, U8, SI, I64, STR] <;> (try and_intros) <;> rfl) (by simp [AO.bo, AV.bo, AV.boL, names] <;> (try and_intros) <;> rfl) ?_ <;> (try simp only [List.map_cons, List.map_nil, regsL, AV.ro, AV.roL, AV.bo, AV.boL, names, get_here, get_there, Nat.reduceBEq, List.getD_cons_zero, List.getD_cons_succ, List.getD_nil, and_true, true_and, Nat.reduceLT, List.length_cons, List.length_nil, Nat.reduceAdd, decide_true, Option.isSome_some, Bool.true_or, Bool.and_self, Option.isSome_none, Bool.false_or, beq_self_eq_true, wk0_self, wk0_nils]) <;> (try and_intros) <;> (first | done | rfl | exact .inl rfl | exact .inr ⟨rfl, _, _, rfl⟩ | (simp; done) | (simp; omega) | (refine .inl ?_; simp; done) | (refine .inl ?_; simp; omega)))
    · simp only [capT] at hQ ⊢
      simp -implicitDefEqProofs (maxSteps := 500000) (disch := first | decide | omega) only [↓preS, allS, decS, simprocAttr]
      exact hQ
  · rcases (by omega : k = 0 ∨ k = 1 ∨ k = 2) with rfl | rfl | rfl
    · simp only [capT]
      simp -implicitDefEqProofs (maxSteps := 500000) (disch := first | decide | omega) only [↓preS, allS, decS, simprocAttr, fillOk, fillAV, List.append_nil]
      refine ⟨1, ?_, by omega, by omega⟩
      simp only [capT, List.replicate, List.map_cons, List.map_nil]
      (refine Sub.ofL [some 0, some 1, some 2, some 4] rfl (by simp) (by decide) (by simp [partL, AO.ro, AV.ro, AV.roL, names, AO.empty, SB, U8, SI, I64, STR] <;> (try and_intros) <;> rfl) (by simp [AO.bo, AV.bo, AV.boL, names] <;> (try and_intros) <;> rfl) ?_ <;> (try simp only [List.map_cons, List.map_nil, regsL, AV.ro, AV.roL, AV.bo, AV.boL, names, get_here, get_there, Nat.reduceBEq, List.getD_cons_zero, List.getD_cons_succ, List.getD_nil, and_true, true_and, Nat.reduceLT, List.length_cons, List.length_nil, Nat.reduceAdd, decide_true, Option.isSome_some, Bool.true_or, Bool.and_self, Option.isSome_none, Bool.false_or, beq_self_eq_true, wk0_self, wk0_nils]) <;> (try and_intros) <;> (first | done | rfl | exact .inl rfl | exact .inr ⟨rfl, _, _, rfl⟩ | (simp; done) | (simp; omega) | (refine .inl ?_; simp; done) | (refine .inl ?_; simp; omega)))
    · simp only [capT, List.replicate, List.map_cons, List.map_nil]
      simp -implicitDefEqProofs (maxSteps := 500000) (disch := first | decide | omega) only [↓preS, allS, decS, simprocAttr, fillOk, fillAV, List.append_nil]
      refine ⟨2, ?_, by omega, by omega⟩
      simp only [capT, List.replicate, List.map_cons, List.map_nil]
      (refine Sub.ofL [some 0, some 1, some 2, some 5] rfl (by simp) (by decide) (by simp [partL, AO.ro, AV.ro, AV.roL, names, AO.empty, SB, U8, SI, I64, STR] <;> (try and_intros) <;> rfl) (by simp [AO.bo, AV.bo, AV.boL, names] <;> (try and_intros) <;> rfl) ?_ <;> (try simp only [List.map_cons, List.map_nil, regsL, AV.ro, AV.roL, AV.bo, AV.boL, names, get_here, get_there, Nat.reduceBEq, List.getD_cons_zero, List.getD_cons_succ, List.getD_nil, and_true, true_and, Nat.reduceLT, List.length_cons, List.length_nil, Nat.reduceAdd, decide_true, Option.isSome_some, Bool.true_or, Bool.and_self, Option.isSome_none, Bool.false_or, beq_self_eq_true, wk0_self, wk0_nils]) <;> (try and_intros) <;> (first | done | rfl | exact .inl rfl | exact .inr ⟨rfl, _, _, rfl⟩ | (simp; done) | (simp; omega) | (refine .inl ?_; simp; done) | (refine .inl ?_; simp; omega)))
    · simp only [capT] at hQ ⊢
      simp -implicitDefEqProofs (maxSteps := 500000) (disch := first | decide | omega) only [↓preS, allS, decS, simprocAttr]
      exact hQ
set_option maxRecDepth 20000 in
set_option maxHeartbeats 16000000 in
theorem cloop1 (ns : List Int) (labs pl : List (List UInt8)) (nl r : Nat) (hlab : labs.length = nl) (hnl : nl = 1 ∨ nl = 2) (x8 u : Int) (p : List UInt8) (ps : Nat → List UInt8) (us : Nat → Int) (cs : Nat → List Cap) (Q : AE → St → Prop)
    (hQ : Q (.exit 2) ⟨[(1, .sl false 1 (ns.map I64)), (4, .ref 0 0 0), (6, .ref 1 0 0), (7, .sl false 1 (pl.map AV.str)), (8, .int .i64 x8), (9, .ref 4 0 0), (10, .int .i64 (nl : Int)), (71, .bool false)], [.box [.nils, .nils], .box [.sl false 1 (labs.map AV.str), .own 2 3 0 1], .box ([.str (ps 0), .own 3 2 0 nl, .int .i64 (us 0)] ++ List.replicate r AV.any), .arr 2 ((cs 0).map CAP)] ++ capT p u 4 nl⟩) (s0 : St) (hs0 : Sub 0 (keepK (some [1, 4, 6, 7, 8, 9, 10]) s0) ⟨[(1, .sl false 1 (ns.map I64)), (4, .ref 0 0 0), (6, .ref 1 0 0), (7, .sl false 1 (pl.map AV.str)), (8, .int .i64 x8), (9, .ref 4 0 0), (10, .int .i64 (((0 : Nat) : Int) : Int))], [.box [.nils, .nils], .box [.sl false 1 (labs.map AV.str), .own 2 3 0 1], .box ([.str (ps 0), .own 3 2 0 nl, .int .i64 (us 0)] ++ List.replicate r AV.any), .arr 2 ((cs 0).map CAP)] ++ capT p u 4 0⟩) :
    aw Tryd.prog (.loop 0 (some [1, 4, 6, 7, 8, 9, 10]) cc10l4) Q s0 := by
  refine aw_loopS (σ := Nat) (fun k => ⟨[(1, .sl false 1 (ns.map I64)), (4, .ref 0 0 0), (6, .ref 1 0 0), (7, .sl false 1 (pl.map AV.str)), (8, .int .i64 x8), (9, .ref 4 0 0), (10, .int .i64 (k : Int))], [.box [.nils, .nils], .box [.sl false 1 (labs.map AV.str), .own 2 3 0 1], .box ([.str (ps 0), .own 3 2 0 nl, .int .i64 (us 0)] ++ List.replicate r AV.any), .arr 2 ((cs 0).map CAP)] ++ capT p u 4 k⟩) (fun k => k ≤ nl) (fun k => nl - k) 0 hs0 (by omega) ?_
  intro k hk
  unfold cc10l4
  rcases hnl with rfl | rfl
  · rcases (by omega : k = 0 ∨ k = 1) with rfl | rfl
    · simp only [capT]
      simp -implicitDefEqProofs (maxSteps := 500000) (disch := first | decide | omega) only [↓preS, allS, decS, simprocAttr, fillOk, fillAV, List.append_nil]
      refine ⟨1, ?_, by omega, by omega⟩
      simp only [capT, List.replicate, List.map_cons, List.map_nil]
      (refine Sub.ofL [some 0, some 1, some 2, some 3, some 4, some 6] rfl (by simp) (by decide) (by simp [partL, AO.ro, AV.ro, AV.roL, names, AO.empty, SB, U8, SI, I64, STR] <;> (try and_intros) <;> rfl) (by simp [AO.bo, AV.bo, AV.boL, names] <;> (try and_intros) <;> rfl) ?_ <;> (try simp only [List.map_cons, List.map_nil, regsL, AV.ro, AV.roL, AV.bo, AV.boL, names, get_here, get_there, Nat.reduceBEq, List.getD_cons_zero, List.getD_cons_succ, List.getD_nil, and_true, true_and, Nat.reduceLT, List.length_cons, List.length_nil, Nat.reduceAdd, decide_true, Option.isSome_some, Bool.true_or, Bool.and_self, Option.isSome_none, Bool.false_or, beq_self_eq_true, wk0_self, wk0_nils]) <;> (try and_intros) <;> (first | done | rfl | exact .inl rfl | exact .inr ⟨rfl, _, _, rfl⟩ | (simp; done) | (simp; omega) | (refine .inl ?_; simp; done) | (refine .inl ?_; simp; omega)))
    · simp only [capT] at hQ ⊢
      simp -implicitDefEqProofs (maxSteps := 500000) (disch := first | decide | omega) only [↓preS, allS, decS, simprocAttr]
      exact hQ
  · rcases (by omega : k = 0 ∨ k = 1 ∨ k = 2) with rfl | rfl | rfl
    · simp only [capT]
      simp -implicitDefEqProofs (maxSteps := 500000) (disch := first | decide | omega) only [↓preS, allS, decS, simprocAttr, fillOk, fillAV, List.append_nil]
      refine ⟨1, ?_, by omega, by omega⟩
      simp only [capT, List.replicate, List.map_cons, List.map_nil]
      (refine Sub.ofL [some 0, some 1, some 2, some 3, some 4, some 6] rfl (by simp) (by decide) (by simp [partL, AO.ro, AV.ro, AV.roL, names, AO.empty, SB, U8, SI, I64, STR] <;> (try and_intros) <;> rfl) (by simp [AO.bo, AV.bo, AV.boL, names] <;> (try and_intros) <;> rfl) ?_ <;> (try simp only [List.map_cons, List.map_nil, regsL, AV.ro, AV.roL, AV.bo, AV.boL, names, get_here, get_there, Nat.reduceBEq, List.getD_cons_zero, List.getD_cons_succ, List.getD_nil, and_true, true_and, Nat.reduceLT, List.length_cons, List.length_nil, Nat.reduceAdd, decide_true, Option.isSome_some, Bool.true_or, Bool.and_self, Option.isSome_none, Bool.false_or, beq_self_eq_true, wk0_self, wk0_nils]) <;> (try and_intros) <;> (first | done | rfl | exact .inl rfl | exact .inr ⟨rfl, _, _, rfl⟩ | (simp; done) | (simp; omega) | (refine .inl ?_; simp; done) | (refine .inl ?_; simp; omega)))
    · simp only [capT, List.replicate, List.map_cons, List.map_nil]
      simp -implicitDefEqProofs (maxSteps := 500000) (disch := first | decide | omega) only [↓preS, allS, decS, simprocAttr, fillOk, fillAV, List.append_nil]
      refine ⟨2, ?_, by omega, by omega⟩
      simp only [capT, List.replicate, List.map_cons, List.map_nil]
      (refine Sub.ofL [some 0, some 1, some 2, some 3, some 4, some 7] rfl (by simp) (by decide) (by simp [partL, AO.ro, AV.ro, AV.roL, names, AO.empty, SB, U8, SI, I64, STR] <;> (try and_intros) <;> rfl) (by simp [AO.bo, AV.bo, AV.boL, names] <;> (try and_intros) <;> rfl) ?_ <;> (try simp only [List.map_cons, List.map_nil, regsL, AV.ro, AV.roL, AV.bo, AV.boL, names, get_here, get_there, Nat.reduceBEq, List.getD_cons_zero, List.getD_cons_succ, List.getD_nil, and_true, true_and, Nat.reduceLT, List.length_cons, List.length_nil, Nat.reduceAdd, decide_true, Option.isSome_some, Bool.true_or, Bool.and_self, Option.isSome_none, Bool.false_or, beq_self_eq_true, wk0_self, wk0_nils]) <;> (try and_intros) <;> (first | done | rfl | exact .inl rfl | exact .inr ⟨rfl, _, _, rfl⟩ | (simp; done) | (simp; omega) | (refine .inl ?_; simp; done) | (refine .inl ?_; simp; omega)))
    · simp only [capT] at hQ ⊢
      simp -implicitDefEqProofs (maxSteps := 500000) (disch := first | decide | omega) only [↓preS, allS, decS, simprocAttr]
      exact hQ
set_option maxRecDepth 20000 in
set_option maxHeartbeats 16000000 in
theorem cloop2 (ns : List Int) (labs pl : List (List UInt8)) (nl r : Nat) (hlab : labs.length = nl) (hnl : nl = 1 ∨ nl = 2) (x8 u : Int) (p : List UInt8) (ps : Nat → List UInt8) (us : Nat → Int) (cs : Nat → List Cap) (Q : AE → St → Prop)
    (hQ : Q (.exit 2) ⟨[(1, .sl false 1 (ns.map I64)), (4, .ref 0 0 0), (6, .ref 1 0 0), (7, .sl false 1 (pl.map AV.str)), (8, .int .i64 x8), (9, .ref 5 0 0), (10, .int .i64 (nl : Int)), (71, .bool false)], [.box [.nils, .nils], .box [.sl false 1 (labs.map AV.str), .own 2 3 0 2], .box ([.str (ps 0), .own 3 2 0 nl, .int .i64 (us 0), .str (ps 1), .own 4 2 0 nl, .int .i64 (us 1)] ++ List.replicate r AV.any), .arr 2 ((cs 0).map CAP), .arr 2 ((cs 1).map CAP)] ++ capT p u 5 nl⟩) (s0 : St) (hs0 : Sub 0 (keepK (some [1, 4, 6, 7, 8, 9, 10]) s0) ⟨[(1, .sl false 1 (ns.map I64)), (4, .ref 0 0 0), (6, .ref 1 0 0), (7, .sl false 1 (pl.map AV.str)), (8, .int .i64 x8), (9, .ref 5 0 0), (10, .int .i64 (((0 : Nat) : Int) : Int))], [.box [.nils, .nils], .box [.sl false 1 (labs.map AV.str), .own 2 3 0 2], .box ([.str (ps 0), .own 3 2 0 nl, .int .i64 (us 0), .str (ps 1), .own 4 2 0 nl, .int .i64 (us 1)] ++ List.replicate r AV.any), .arr 2 ((cs 0).map CAP), .arr 2 ((cs 1).map CAP)] ++ capT p u 5 0⟩) :
    aw Tryd.prog (.loop 0 (some [1, 4, 6, 7, 8, 9, 10]) cc10l4) Q s0 := by
  refine aw_loopS (σ := Nat) (fun k => ⟨[(1, .sl false 1 (ns.map I64)), (4, .ref 0 0 0), (6, .ref 1 0 0), (7, .sl false 1 (pl.map AV.str)), (8, .int .i64 x8), (9, .ref 5 0 0), (10, .int .i64 (k : Int))], [.box [.nils, .nils], .box [.sl false 1 (labs.map AV.str), .own 2 3 0 2], .box ([.str (ps 0), .own 3 2 0 nl, .int .i64 (us 0), .str (ps 1), .own 4 2 0 nl, .int .i64 (us 1)] ++ List.replicate r AV.any), .arr 2 ((cs 0).map CAP), .arr 2 ((cs 1).map CAP)] ++ capT p u 5 k⟩) (fun k => k ≤ nl) (fun k => nl - k) 0 hs0 (by omega) ?_
  intro k hk
  unfold cc10l4
  rcases hnl with rfl | rfl
  · rcases (by omega : k = 0 ∨ k = 1) with rfl | rfl
    · simp only [capT]
      simp -implicitDefEqProofs (maxSteps := 500000) (disch := first | decide | omega) only [↓preS, allS, decS, simprocAttr, fillOk, fillAV, List.append_nil]
      refine ⟨1, ?_, by omega, by omega⟩
      simp only [capT, List.replicate, List.map_cons, List.map_nil]
      (refine Sub.ofL [some 0, some 1, some 2, some 3, some 4, some 5, some 7] rfl (by simp) (by decide) (by simp [partL, AO.ro, AV.ro, AV.roL, names, AO.empty, SB, U8, SI, I64, STR] <;> (try and_intros) <;> rfl) (by simp [AO.bo, AV.bo, AV.boL, names] <;> (try and_intros) <;> rfl) ?_ <;> (try simp only [List.map_cons, List.map_nil, regsL, AV.ro, AV.roL, AV.bo, AV.boL, names, get_here, get_there, Nat.reduceBEq, List.getD_cons_zero, List.getD_cons_succ, List.getD_nil, and_true, true_and, Nat.reduceLT, List.length_cons, List.length_nil, Nat.reduceAdd, decide_true, Option.isSome_some, Bool.true_or, Bool.and_self, Option.isSome_none, Bool.false_or, beq_self_eq_true, wk0_self, wk0_nils]) <;> (try and_intros) <;> (first | done | rfl | exact .inl rfl | exact .inr ⟨rfl, _, _, rfl⟩ | (simp; done) | (simp; omega) | (refine .inl ?_; simp; done) | (refine .inl ?_; simp; omega)))
    · simp only [capT] at hQ ⊢
      simp -implicitDefEqProofs (maxSteps := 500000) (disch := first | decide | omega) only [↓preS, allS, decS, simprocAttr]
      exact hQ
  · rcases (by omega : k = 0 ∨ k = 1 ∨ k = 2) with rfl | rfl | rfl
    · simp only [capT]
      simp -implicitDefEqProofs (maxSteps := 500000) (disch := first | decide | omega) only [↓preS, allS, decS, simprocAttr, fillOk, fillAV, List.append_nil]
      refine ⟨1, ?_, by omega, by omega⟩
      simp only [capT, List.replicate, List.map_cons, List.map_nil]
      (refine Sub.ofL [some 0, some 1, some 2, some 3, some 4, some 5, some 7] rfl (by simp) (by decide) (by simp [partL, AO.ro, AV.ro, AV.roL, names, AO.empty, SB, U8, SI, I64, STR] <;> (try and_intros) <;> rfl) (by simp [AO.bo, AV.bo, AV.boL, names] <;> (try and_intros) <;> rfl) ?_ <;> (try simp only [List.map_cons, List.map_nil, regsL, AV.ro, AV.roL, AV.bo, AV.boL, names, get_here, get_there, Nat.reduceBEq, List.getD_cons_zero, List.getD_cons_succ, List.getD_nil, and_true, true_and, Nat.reduceLT, List.length_cons, List.length_nil, Nat.reduceAdd, decide_true, Option.isSome_some, Bool.true_or, Bool.and_self, Option.isSome_none, Bool.false_or, beq_self_eq_true, wk0_self, wk0_nils]) <;> (try and_intros) <;> (first | done | rfl | exact .inl rfl | exact .inr ⟨rfl, _, _, rfl⟩ | (simp; done) | (simp; omega) | (refine .inl ?_; simp; done) | (refine .inl ?_; simp; omega)))
    · simp only [capT, List.replicate, List.map_cons, List.map_nil]
      simp -implicitDefEqProofs (maxSteps := 500000) (disch := first | decide | omega) only [↓preS, allS, decS, simprocAttr, fillOk, fillAV, List.append_nil]
      refine ⟨2, ?_, by omega, by omega⟩
      simp only [capT, List.replicate, List.map_cons, List.map_nil]
      (refine Sub.ofL [some 0, some 1, some 2, some 3, some 4, some 5, some 8] rfl (by simp) (by decide) (by simp [partL, AO.ro, AV.ro, AV.roL, names, AO.empty, SB, U8, SI, I64, STR] <;> (try and_intros) <;> rfl) (by simp [AO.bo, AV.bo, AV.boL, names] <;> (try and_intros) <;> rfl) ?_ <;> (try simp only [List.map_cons, List.map_nil, regsL, AV.ro, AV.roL, AV.bo, AV.boL, names, get_here, get_there, Nat.reduceBEq, List.getD_cons_zero, List.getD_cons_succ, List.getD_nil, and_true, true_and, Nat.reduceLT, List.length_cons, List.length_nil, Nat.reduceAdd, decide_true, Option.isSome_some, Bool.true_or, Bool.and_self, Option.isSome_none, Bool.false_or, beq_self_eq_true, wk0_self, wk0_nils]) <;> (try and_intros) <;> (first | done | rfl | exact .inl rfl | exact .inr ⟨rfl, _, _, rfl⟩ | (simp; done) | (simp; omega) | (refine .inl ?_; simp; done) | (refine .inl ?_; simp; omega)))
    · simp only [capT] at hQ ⊢
      simp -implicitDefEqProofs (maxSteps := 500000) (disch := first | decide | omega) only [↓preS, allS, decS, simprocAttr]
      exact hQ
set_option maxRecDepth 20000 in
set_option maxHeartbeats 16000000 in
theorem cloop3 (ns : List Int) (labs pl : List (List UInt8)) (nl r : Nat) (hlab : labs.length = nl) (hnl : nl = 1 ∨ nl = 2) (x8 u : Int) (p : List UInt8) (ps : Nat → List UInt8) (us : Nat → Int) (cs : Nat → List Cap) (Q : AE → St → Prop)
    (hQ : Q (.exit 2) ⟨[(1, .sl false 1 (ns.map I64)), (4, .ref 0 0 0), (6, .ref 1 0 0), (7, .sl false 1 (pl.map AV.str)), (8, .int .i64 x8), (9, .ref 6 0 0), (10, .int .i64 (nl : Int)), (71, .bool false)], [.box [.nils, .nils], .box [.sl false 1 (labs.map AV.str), .own 2 3 0 3], .box ([.str (ps 0), .own 3 2 0 nl, .int .i64 (us 0), .str (ps 1), .own 4 2 0 nl, .int .i64 (us 1), .str (ps 2), .own 5 2 0 nl, .int .i64 (us 2)] ++ List.replicate r AV.any), .arr 2 ((cs 0).map CAP), .arr 2 ((cs 1).map CAP), .arr 2 ((cs 2).map CAP)] ++ capT p u 6 nl⟩) (s0 : St) (hs0 : Sub 0 (keepK (some [1, 4, 6, 7, 8, 9, 10]) s0) ⟨[(1, .sl false 1 (ns.map I64)), (4, .ref 0 0 0), (6, .ref 1 0 0), (7, .sl false 1 (pl.map AV.str)), (8, .int .i64 x8), (9, .ref 6 0 0), (10, .int .i64 (((0 : Nat) : Int) : Int))], [.box [.nils, .nils], .box [.sl false 1 (labs.map AV.str), .own 2 3 0 3], .box ([.str (ps 0), .own 3 2 0 nl, .int .i64 (us 0), .str (ps 1), .own 4 2 0 nl, .int .i64 (us 1), .str (ps 2), .own 5 2 0 nl, .int .i64 (us 2)] ++ List.replicate r AV.any), .arr 2 ((cs 0).map CAP), .arr 2 ((cs 1).map CAP), .arr 2 ((cs 2).map CAP)] ++ capT p u 6 0⟩) :
    aw Tryd.prog (.loop 0 (some [1, 4, 6, 7, 8, 9, 10]) cc10l4) Q s0 := by
  refine aw_loopS (σ := Nat) (fun k => ⟨[(1, .sl false 1 (ns.map I64)), (4, .ref 0 0 0), (6, .ref 1 0 0), (7, .sl false 1 (pl.map AV.str)), (8, .int .i64 x8), (9, .ref 6 0 0), (10, .int .i64 (k : Int))], [.box [.nils, .nils], .box [.sl false 1 (labs.map AV.str), .own 2 3 0 3], .box ([.str (ps 0), .own 3 2 0 nl, .int .i64 (us 0), .str (ps 1), .own 4 2 0 nl, .int .i64 (us 1), .str (ps 2), .own 5 2 0 nl, .int .i64 (us 2)] ++ List.replicate r AV.any), .arr 2 ((cs 0).map CAP), .arr 2 ((cs 1).map CAP), .arr 2 ((cs 2).map CAP)] ++ capT p u 6 k⟩) (fun k => k ≤ nl) (fun k => nl - k) 0 hs0 (by omega) ?_
  intro k hk
  unfold cc10l4
  rcases hnl with rfl | rfl
  · rcases (by omega : k = 0 ∨ k = 1) with rfl | rfl
    · simp only [capT]
      simp -implicitDefEqProofs (maxSteps := 500000) (disch := first | decide | omega) only [↓preS, allS, decS, simprocAttr, fillOk, fillAV, List.append_nil]
      refine ⟨1, ?_, by omega, by omega⟩
      simp only [capT, List.replicate, List.map_cons, List.map_nil]
      (refine Sub.ofL [some 0, some 1, some 2, some 3, some 4, some 5, some 6, some 8] rfl (by simp) (by decide) (by simp [partL, AO.ro, AV.ro, AV.roL, names, AO.empty, SB, U8, SI, I64, STR] <;> (try and_intros) <;> rfl) (by simp [AO.bo, AV.bo, AV.boL, names] <;> (try and_intros) <;> rfl) ?_ <;> (try simp only [List.map_cons, List.map_nil, regsL, AV.ro, AV.roL, AV.bo, AV.boL, names, get_here, get_there, Nat.reduceBEq, List.getD_cons_zero, List.getD_cons_succ, List.getD_nil, and_true, true_and, Nat.reduceLT, List.length_cons, List.length_nil, Nat.reduceAdd, decide_true, Option.isSome_some, Bool.true_or, Bool.and_self, Option.isSome_none, Bool.false_or, beq_self_eq_true, wk0_self, wk0_nils]) <;> (try and_intros) <;> (first | done | rfl | exact .inl rfl | exact .inr ⟨rfl, _, _, rfl⟩ | (simp; done) | (simp; omega) | (refine .inl ?_; simp; done) | (refine .inl ?_; simp; omega)))
    · simp only [capT] at hQ ⊢
      simp -implicitDefEqProofs (maxSteps := 500000) (disch := first | decide | omega) only [↓preS, allS, decS, simprocAttr]
      exact hQ
  · rcases (by omega : k = 0 ∨ k = 1 ∨ k = 2) with rfl | rfl | rfl
    · simp only [capT]
      simp -implicitDefEqProofs (maxSteps := 500000) (disch := first | decide | omega) only [↓preS, allS, decS, simprocAttr, fillOk, fillAV, List.append_nil]
      refine ⟨1, ?_, by omega, by omega⟩
      simp only [capT, List.replicate, List.map_cons, List.map_nil]
      (refine Sub.ofL [some 0, some 1, some 2, some 3, some 4, some 5, some 6, some 8] rfl (by simp) (by decide) (by simp [partL, AO.ro, AV.ro, AV.roL, names, AO.empty, SB, U8, SI, I64, STR] <;> (try and_intros) <;> rfl) (by simp [AO.bo, AV.bo, AV.boL, names] <;> (try and_intros) <;> rfl) ?_ <;> (try simp only [List.map_cons, List.map_nil, regsL, AV.ro, AV.roL, AV.bo, AV.boL, names, get_here, get_there, Nat.reduceBEq, List.getD_cons_zero, List.getD_cons_succ, List.getD_nil, and_true, true_and, Nat.reduceLT, List.length_cons, List.length_nil, Nat.reduceAdd, decide_true, Option.isSome_some, Bool.true_or, Bool.and_self, Option.isSome_none, Bool.false_or, beq_self_eq_true, wk0_self, wk0_nils]) <;> (try and_intros) <;> (first | done | rfl | exact .inl rfl | exact .inr ⟨rfl, _, _, rfl⟩ | (simp; done) | (simp; omega) | (refine .inl ?_; simp; done) | (refine .inl ?_; simp; omega)))
    · simp only [capT, List.replicate, List.map_cons, List.map_nil]
      simp -implicitDefEqProofs (maxSteps := 500000) (disch := first | decide | omega) only [↓preS, allS, decS, simprocAttr, fillOk, fillAV, List.append_nil]
      refine ⟨2, ?_, by omega, by omega⟩
      simp only [capT, List.replicate, List.map_cons, List.map_nil]
      (refine Sub.ofL [some 0, some 1, some 2, some 3, some 4, some 5, some 6, some 9] rfl (by simp) (by decide) (by simp [partL, AO.ro, AV.ro, AV.roL, names, AO.empty, SB, U8, SI, I64, STR] <;> (try and_intros) <;> rfl) (by simp [AO.bo, AV.bo, AV.boL, names] <;> (try and_intros) <;> rfl) ?_ <;> (try simp only [List.map_cons, List.map_nil, regsL, AV.ro, AV.roL, AV.bo, AV.boL, names, get_here, get_there, Nat.reduceBEq, List.getD_cons_zero, List.getD_cons_succ, List.getD_nil, and_true, true_and, Nat.reduceLT, List.length_cons, List.length_nil, Nat.reduceAdd, decide_true, Option.isSome_some, Bool.true_or, Bool.and_self, Option.isSome_none, Bool.false_or, beq_self_eq_true, wk0_self, wk0_nils]) <;> (try and_intros) <;> (first | done | rfl | exact .inl rfl | exact .inr ⟨rfl, _, _, rfl⟩ | (simp; done) | (simp; omega) | (refine .inl ?_; simp; done) | (refine .inl ?_; simp; omega)))
    · simp only [capT] at hQ ⊢
      simp -implicitDefEqProofs (maxSteps := 500000) (disch := first | decide | omega) only [↓preS, allS, decS, simprocAttr]
      exact hQ
set_option maxRecDepth 20000 in
set_option maxHeartbeats 16000000 in
theorem cloop4 (ns : List Int) (labs pl : List (List UInt8)) (nl r : Nat) (hlab : labs.length = nl) (hnl : nl = 1 ∨ nl = 2) (x8 u : Int) (p : List UInt8) (ps : Nat → List UInt8) (us : Nat → Int) (cs : Nat → List Cap) (Q : AE → St → Prop)
    (hQ : Q (.exit 2) ⟨[(1, .sl false 1 (ns.map I64)), (4, .ref 0 0 0), (6, .ref 1 0 0), (7, .sl false 1 (pl.map AV.str)), (8, .int .i64 x8), (9, .ref 7 0 0), (10, .int .i64 (nl : Int)), (71, .bool false)], [.box [.nils, .nils], .box [.sl false 1 (labs.map AV.str), .own 2 3 0 4], .box ([.str (ps 0), .own 3 2 0 nl, .int .i64 (us 0), .str (ps 1), .own 4 2 0 nl, .int .i64 (us 1), .str (ps 2), .own 5 2 0 nl, .int .i64 (us 2), .str (ps 3), .own 6 2 0 nl, .int .i64 (us 3)] ++ List.replicate r AV.any), .arr 2 ((cs 0).map CAP), .arr 2 ((cs 1).map CAP), .arr 2 ((cs 2).map CAP), .arr 2 ((cs 3).map CAP)] ++ capT p u 7 nl⟩) (s0 : St) (hs0 : Sub 0 (keepK (some [1, 4, 6, 7, 8, 9, 10]) s0) ⟨[(1, .sl false 1 (ns.map I64)), (4, .ref 0 0 0), (6, .ref 1 0 0), (7, .sl false 1 (pl.map AV.str)), (8, .int .i64 x8), (9, .ref 7 0 0), (10, .int .i64 (((0 : Nat) : Int) : Int))], [.box [.nils, .nils], .box [.sl false 1 (labs.map AV.str), .own 2 3 0 4], .box ([.str (ps 0), .own 3 2 0 nl, .int .i64 (us 0), .str (ps 1), .own 4 2 0 nl, .int .i64 (us 1), .str (ps 2), .own 5 2 0 nl, .int .i64 (us 2), .str (ps 3), .own 6 2 0 nl, .int .i64 (us 3)] ++ List.replicate r AV.any), .arr 2 ((cs 0).map CAP), .arr 2 ((cs 1).map CAP), .arr 2 ((cs 2).map CAP), .arr 2 ((cs 3).map CAP)] ++ capT p u 7 0⟩) :
    aw Tryd.prog (.loop 0 (some [1, 4, 6, 7, 8, 9, 10]) cc10l4) Q s0 := by
  refine aw_loopS (σ := Nat) (fun k => ⟨[(1, .sl false 1 (ns.map I64)), (4, .ref 0 0 0), (6, .ref 1 0 0), (7, .sl false 1 (pl.map AV.str)), (8, .int .i64 x8), (9, .ref 7 0 0), (10, .int .i64 (k : Int))], [.box [.nils, .nils], .box [.sl false 1 (labs.map AV.str), .own 2 3 0 4], .box ([.str (ps 0), .own 3 2 0 nl, .int .i64 (us 0), .str (ps 1), .own 4 2 0 nl, .int .i64 (us 1), .str (ps 2), .own 5 2 0 nl, .int .i64 (us 2), .str (ps 3), .own 6 2 0 nl, .int .i64 (us 3)] ++ List.replicate r AV.any), .arr 2 ((cs 0).map CAP), .arr 2 ((cs 1).map CAP), .arr 2 ((cs 2).map CAP), .arr 2 ((cs 3).map CAP)] ++ capT p u 7 k⟩) (fun k => k ≤ nl) (fun k => nl - k) 0 hs0 (by omega) ?_
  intro k hk
  unfold cc10l4
  rcases hnl with rfl | rfl
  · rcases (by omega : k = 0 ∨ k = 1) with rfl | rfl
    · simp only [capT]
      simp -implicitDefEqProofs (maxSteps := 500000) (disch := first | decide | omega) only [↓preS, allS, decS, simprocAttr, fillOk, fillAV, List.append_nil]
      refine ⟨1, ?_, by omega, by omega⟩
      simp only [capT, List.replicate, List.map_cons, List.map_nil]
      (refine Sub.ofL [some 0, some 1, some 2, some 3, some 4, some 5, some 6, some 7, some 9] rfl (by simp) (by decide) (by simp [partL, AO.ro, AV.ro, AV.roL, names, AO.empty, SB, U8, SI, I64, STR] <;> (try and_intros) <;> rfl) (by simp [AO.bo, AV.bo, AV.boL, names] <;> (try and_intros) <;> rfl) ?_ <;> (try simp only [List.map_cons, List.map_nil, regsL, AV.ro, AV.roL, AV.bo, AV.boL, names, get_here, get_there, Nat.reduceBEq, List.getD_cons_zero, List.getD_cons_succ, List.getD_nil, and_true, true_and, Nat.reduceLT, List.length_cons, List.length_nil, Nat.reduceAdd, decide_true, Option.isSome_some, Bool.true_or, Bool.and_self, Option.isSome_none, Bool.false_or, beq_self_eq_true, wk0_self, wk0_nils]) <;> (try and_intros) <;> (first | done | rfl | exact .inl rfl | exact .inr ⟨rfl, _, _, rfl⟩ | (simp; done) | (simp; omega) | (refine .inl ?_; simp; done) | (refine .inl ?_; simp; omega)))
    · simp only [capT] at hQ ⊢
      simp -implicitDefEqProofs (maxSteps := 500000) (disch := first | decide | omega) only [↓preS, allS, decS, simprocAttr]
      exact hQ
  · rcases (by omega : k = 0 ∨ k = 1 ∨ k = 2) with rfl | rfl | rfl
    · simp only [capT]
      simp -implicitDefEqProofs (maxSteps := 500000) (disch := first | decide | omega) only [↓preS, allS, decS, simprocAttr, fillOk, fillAV, List.append_nil]
      refine ⟨1, ?_, by omega, by omega⟩
      simp only [capT, List.replicate, List.map_cons, List.map_nil]
      (refine Sub.ofL [some 0, some 1, some 2, some 3, some 4, some 5, some 6, some 7, some 9] rfl (by simp) (by decide) (by simp [partL, AO.ro, AV.ro, AV.roL, names, AO.empty, SB, U8, SI, I64, STR] <;> (try and_intros) <;> rfl) (by simp [AO.bo, AV.bo, AV.boL, names] <;> (try and_intros) <;> rfl) ?_ <;> (try simp only [List.map_cons, List.map_nil, regsL, AV.ro, AV.roL, AV.bo, AV.boL, names, get_here, get_there, Nat.reduceBEq, List.getD_cons_zero, List.getD_cons_succ, List.getD_nil, and_true, true_and, Nat.reduceLT, List.length_cons, List.length_nil, Nat.reduceAdd, decide_true, Option.isSome_some, Bool.true_or, Bool.and_self, Option.isSome_none, Bool.false_or, beq_self_eq_true, wk0_self, wk0_nils]) <;> (try and_intros) <;> (first | done | rfl | exact .inl rfl | exact .inr ⟨rfl, _, _, rfl⟩ | (simp; done) | (simp; omega) | (refine .inl ?_; simp; done) | (refine .inl ?_; simp; omega)))
    · simp only [capT, List.replicate, List.map_cons, List.map_nil]
      simp -implicitDefEqProofs (maxSteps := 500000) (disch := first | decide | omega) only [↓preS, allS, decS, simprocAttr, fillOk, fillAV, List.append_nil]
      refine ⟨2, ?_, by omega, by omega⟩
      simp only [capT, List.replicate, List.map_cons, List.map_nil]
      (refine Sub.ofL [some 0, some 1, some 2, some 3, some 4, some 5, some 6, some 7, some 10] rfl (by simp) (by decide) (by simp [partL, AO.ro, AV.ro, AV.roL, names, AO.empty, SB, U8, SI, I64, STR] <;> (try and_intros) <;> rfl) (by simp [AO.bo, AV.bo, AV.boL, names] <;> (try and_intros) <;> rfl) ?_ <;> (try simp only [List.map_cons, List.map_nil, regsL, AV.ro, AV.roL, AV.bo, AV.boL, names, get_here, get_there, Nat.reduceBEq, List.getD_cons_zero, List.getD_cons_succ, List.getD_nil, and_true, true_and, Nat.reduceLT, List.length_cons, List.length_nil, Nat.reduceAdd, decide_true, Option.isSome_some, Bool.true_or, Bool.and_self, Option.isSome_none, Bool.false_or, beq_self_eq_true, wk0_self, wk0_nils]) <;> (try and_intros) <;> (first | done | rfl | exact .inl rfl | exact .inr ⟨rfl, _, _, rfl⟩ | (simp; done) | (simp; omega) | (refine .inl ?_; simp; done) | (refine .inl ?_; simp; omega)))
    · simp only [capT] at hQ ⊢
      simp -implicitDefEqProofs (maxSteps := 500000) (disch := first | decide | omega) only [↓preS, allS, decS, simprocAttr]
      exact hQ
set_option maxRecDepth 20000 in
set_option maxHeartbeats 16000000 in
theorem cloop5 (ns : List Int) (labs pl : List (List UInt8)) (nl r : Nat) (hlab : labs.length = nl) (hnl : nl = 1 ∨ nl = 2) (x8 u : Int) (p : List UInt8) (ps : Nat → List UInt8) (us : Nat → Int) (cs : Nat → List Cap) (Q : AE → St → Prop)
    (hQ : Q (.exit 2) ⟨[(1, .sl false 1 (ns.map I64)), (4, .ref 0 0 0), (6, .ref 1 0 0), (7, .sl false 1 (pl.map AV.str)), (8, .int .i64 x8), (9, .ref 8 0 0), (10, .int .i64 (nl : Int)), (71, .bool false)], [.box [.nils, .nils], .box [.sl false 1 (labs.map AV.str), .own 2 3 0 5], .box ([.str (ps 0), .own 3 2 0 nl, .int .i64 (us 0), .str (ps 1), .own 4 2 0 nl, .int .i64 (us 1), .str (ps 2), .own 5 2 0 nl, .int .i64 (us 2), .str (ps 3), .own 6 2 0 nl, .int .i64 (us 3), .str (ps 4), .own 7 2 0 nl, .int .i64 (us 4)] ++ List.replicate r AV.any), .arr 2 ((cs 0).map CAP), .arr 2 ((cs 1).map CAP), .arr 2 ((cs 2).map CAP), .arr 2 ((cs 3).map CAP), .arr 2 ((cs 4).map CAP)] ++ capT p u 8 nl⟩) (s0 : St) (hs0 : Sub 0 (keepK (some [1, 4, 6, 7, 8, 9, 10]) s0) ⟨[(1, .sl false 1 (ns.map I64)), (4, .ref 0 0 0), (6, .ref 1 0 0), (7, .sl false 1 (pl.map AV.str)), (8, .int .i64 x8), (9, .ref 8 0 0), (10, .int .i64 (((0 : Nat) : Int) : Int))], [.box [.nils, .nils], .box [.sl false 1 (labs.map AV.str), .own 2 3 0 5], .box ([.str (ps 0), .own 3 2 0 nl, .int .i64 (us 0), .str (ps 1), .own 4 2 0 nl, .int .i64 (us 1), .str (ps 2), .own 5 2 0 nl, .int .i64 (us 2), .str (ps 3), .own 6 2 0 nl, .int .i64 (us 3), .str (ps 4), .own 7 2 0 nl, .int .i64 (us 4)] ++ List.replicate r AV.any), .arr 2 ((cs 0).map CAP), .arr 2 ((cs 1).map CAP), .arr 2 ((cs 2).map CAP), .arr 2 ((cs 3).map CAP), .arr 2 ((cs 4).map CAP)] ++ capT p u 8 0⟩) :
    aw Tryd.prog (.loop 0 (some [1, 4, 6, 7, 8, 9, 10]) cc10l4) Q s0 := by
  refine aw_loopS (σ := Nat) (fun k => ⟨[(1, .sl false 1 (ns.map I64)), (4, .ref 0 0 0), (6, .ref 1 0 0), (7, .sl false 1 (pl.map AV.str)), (8, .int .i64 x8), (9, .ref 8 0 0), (10, .int .i64 (k : Int))], [.box [.nils, .nils], .box [.sl false 1 (labs.map AV.str), .own 2 3 0 5], .box ([.str (ps 0), .own 3 2 0 nl, .int .i64 (us 0), .str (ps 1), .own 4 2 0 nl, .int .i64 (us 1), .str (ps 2), .own 5 2 0 nl, .int .i64 (us 2), .str (ps 3), .own 6 2 0 nl, .int .i64 (us 3), .str (ps 4), .own 7 2 0 nl, .int .i64 (us 4)] ++ List.replicate r AV.any), .arr 2 ((cs 0).map CAP), .arr 2 ((cs 1).map CAP), .arr 2 ((cs 2).map CAP), .arr 2 ((cs 3).map CAP), .arr 2 ((cs 4).map CAP)] ++ capT p u 8 k⟩) (fun k => k ≤ nl) (fun k => nl - k) 0 hs0 (by omega) ?_
  intro k hk
  unfold cc10l4
  rcases hnl with rfl | rfl
  · rcases (by omega : k = 0 ∨ k = 1) with rfl | rfl
    · simp only [capT]
      simp -implicitDefEqProofs (maxSteps := 500000) (disch := first | decide | omega) only [↓preS, allS, decS, simprocAttr, fillOk, fillAV, List.append_nil]
      refine ⟨1, ?_, by omega, by omega⟩
      simp only [capT, List.replicate, List.map_cons, List.map_nil]
      (refine Sub.ofL [some 0, some 1, some 2, some 3, some 4, some 5, some 6, some 7, some 8, some 10] rfl (by simp) (by decide) (by simp [partL, AO.ro, AV.ro, AV.roL, names, AO.empty, SB, U8, SI, I64, STR] <;> (try and_intros) <;> rfl) (by simp [AO.bo, AV.bo, AV.boL, names] <;> (try and_intros) <;> rfl) ?_ <;> (try simp only [List.map_cons, List.map_nil, regsL, AV.ro, AV.roL, AV.bo, AV.boL, names, get_here, get_there, Nat.reduceBEq, List.getD_cons_zero, List.getD_cons_succ, List.getD_nil, and_true, true_and, Nat.reduceLT, List.length_cons, List.length_nil, Nat.reduceAdd, decide_true, Option.isSome_some, Bool.true_or, Bool.and_self, Option.isSome_none, Bool.false_or, beq_self_eq_true, wk0_self, wk0_nils]) <;> (try and_intros) <;> (first | done | rfl | exact .inl rfl | exact .inr ⟨rfl, _, _, rfl⟩ | (simp; done) | (simp; omega) | (refine .inl ?_; simp; done) | (refine .inl ?_; simp; omega)))
    · simp only [capT] at hQ ⊢
      simp -implicitDefEqProofs (maxSteps := 500000) (disch := first | decide | omega) only [↓preS, allS, decS, simprocAttr]
      exact hQ
  · rcases (by omega : k = 0 ∨ k = 1 ∨ k = 2) with rfl | rfl | rfl
    · simp only [capT]
      simp -implicitDefEqProofs (maxSteps := 500000) (disch := first | decide | omega) only [↓preS, allS, decS, simprocAttr, fillOk, fillAV, List.append_nil]
      refine ⟨1, ?_, by omega, by omega⟩
      simp only [capT, List.replicate, List.map_cons, List.map_nil]
      (refine Sub.ofL [some 0, some 1, some 2, some 3, some 4, some 5, some 6, some 7, some 8, some 10] rfl (by simp) (by decide) (by simp [partL, AO.ro, AV.ro, AV.roL, names, AO.empty, SB, U8, SI, I64, STR] <;> (try and_intros) <;> rfl) (by simp [AO.bo, AV.bo, AV.boL, names] <;> (try and_intros) <;> rfl) ?_ <;> (try simp only [List.map_cons, List.map_nil, regsL, AV.ro, AV.roL, AV.bo, AV.boL, names, get_here, get_there, Nat.reduceBEq, List.getD_cons_zero, List.getD_cons_succ, List.getD_nil, and_true, true_and, Nat.reduceLT, List.length_cons, List.length_nil, Nat.reduceAdd, decide_true, Option.isSome_some, Bool.true_or, Bool.and_self, Option.isSome_none, Bool.false_or, beq_self_eq_true, wk0_self, wk0_nils]) <;> (try and_intros) <;> (first | done | rfl | exact .inl rfl | exact .inr ⟨rfl, _, _, rfl⟩ | (simp; done) | (simp; omega) | (refine .inl ?_; simp; done) | (refine .inl ?_; simp; omega)))
    · simp only [capT, List.replicate, List.map_cons, List.map_nil]
      simp -implicitDefEqProofs (maxSteps := 500000) (disch := first | decide | omega) only [↓preS, allS, decS, simprocAttr, fillOk, fillAV, List.append_nil]
      refine ⟨2, ?_, by omega, by omega⟩
      simp only [capT, List.replicate, List.map_cons, List.map_nil]
      (refine Sub.ofL [some 0, some 1, some 2, some 3, some 4, some 5, some 6, some 7, some 8, some 11] rfl (by simp) (by decide) (by simp [partL, AO.ro, AV.ro, AV.roL, names, AO.empty, SB, U8, SI, I64, STR] <;> (try and_intros) <;> rfl) (by simp [AO.bo, AV.bo, AV.boL, names] <;> (try and_intros) <;> rfl) ?_ <;> (try simp only [List.map_cons, List.map_nil, regsL, AV.ro, AV.roL, AV.bo, AV.boL, names, get_here, get_there, Nat.reduceBEq, List.getD_cons_zero, List.getD_cons_succ, List.getD_nil, and_true, true_and, Nat.reduceLT, List.length_cons, List.length_nil, Nat.reduceAdd, decide_true, Option.isSome_some, Bool.true_or, Bool.and_self, Option.isSome_none, Bool.false_or, beq_self_eq_true, wk0_self, wk0_nils]) <;> (try and_intros) <;> (first | done | rfl | exact .inl rfl | exact .inr ⟨rfl, _, _, rfl⟩ | (simp; done) | (simp; omega) | (refine .inl ?_; simp; done) | (refine .inl ?_; simp; omega)))
    · simp only [capT] at hQ ⊢
      simp -implicitDefEqProofs (maxSteps := 500000) (disch := first | decide | omega) only [↓preS, allS, decS, simprocAttr]
      exact hQ
set_option maxRecDepth 20000 in
set_option maxHeartbeats 16000000 in
theorem cloop6 (ns : List Int) (labs pl : List (List UInt8)) (nl r : Nat) (hlab : labs.length = nl) (hnl : nl = 1 ∨ nl = 2) (x8 u : Int) (p : List UInt8) (ps : Nat → List UInt8) (us : Nat → Int) (cs : Nat → List Cap) (Q : AE → St → Prop)
    (hQ : Q (.exit 2) ⟨[(1, .sl false 1 (ns.map I64)), (4, .ref 0 0 0), (6, .ref 1 0 0), (7, .sl false 1 (pl.map AV.str)), (8, .int .i64 x8), (9, .ref 9 0 0), (10, .int .i64 (nl : Int)), (71, .bool false)], [.box [.nils, .nils], .box [.sl false 1 (labs.map AV.str), .own 2 3 0 6], .box ([.str (ps 0), .own 3 2 0 nl, .int .i64 (us 0), .str (ps 1), .own 4 2 0 nl, .int .i64 (us 1), .str (ps 2), .own 5 2 0 nl, .int .i64 (us 2), .str (ps 3), .own 6 2 0 nl, .int .i64 (us 3), .str (ps 4), .own 7 2 0 nl, .int .i64 (us 4), .str (ps 5), .own 8 2 0 nl, .int .i64 (us 5)] ++ List.replicate r AV.any), .arr 2 ((cs 0).map CAP), .arr 2 ((cs 1).map CAP), .arr 2 ((cs 2).map CAP), .arr 2 ((cs 3).map CAP), .arr 2 ((cs 4).map CAP), .arr 2 ((cs 5).map CAP)] ++ capT p u 9 nl⟩) (s0 : St) (hs0 : Sub 0 (keepK (some [1, 4, 6, 7, 8, 9, 10]) s0) ⟨[(1, .sl false 1 (ns.map I64)), (4, .ref 0 0 0), (6, .ref 1 0 0), (7, .sl false 1 (pl.map AV.str)), (8, .int .i64 x8), (9, .ref 9 0 0), (10, .int .i64 (((0 : Nat) : Int) : Int))], [.box [.nils, .nils], .box [.sl false 1 (labs.map AV.str), .own 2 3 0 6], .box ([.str (ps 0), .own 3 2 0 nl, .int .i64 (us 0), .str (ps 1), .own 4 2 0 nl, .int .i64 (us 1), .str (ps 2), .own 5 2 0 nl, .int .i64 (us 2), .str (ps 3), .own 6 2 0 nl, .int .i64 (us 3), .str (ps 4), .own 7 2 0 nl, .int .i64 (us 4), .str (ps 5), .own 8 2 0 nl, .int .i64 (us 5)] ++ List.replicate r AV.any), .arr 2 ((cs 0).map CAP), .arr 2 ((cs 1).map CAP), .arr 2 ((cs 2).map CAP), .arr 2 ((cs 3).map CAP), .arr 2 ((cs 4).map CAP), .arr 2 ((cs 5).map CAP)] ++ capT p u 9 0⟩) :
    aw Tryd.prog (.loop 0 (some [1, 4, 6, 7, 8, 9, 10]) cc10l4) Q s0 := by
  refine aw_loopS (σ := Nat) (fun k => ⟨[(1, .sl false 1 (ns.map I64)), (4, .ref 0 0 0), (6, .ref 1 0 0), (7, .sl false 1 (pl.map AV.str)), (8, .int .i64 x8), (9, .ref 9 0 0), (10, .int .i64 (k : Int))], [.box [.nils, .nils], .box [.sl false 1 (labs.map AV.str), .own 2 3 0 6], .box ([.str (ps 0), .own 3 2 0 nl, .int .i64 (us 0), .str (ps 1), .own 4 2 0 nl, .int .i64 (us 1), .str (ps 2), .own 5 2 0 nl, .int .i64 (us 2), .str (ps 3), .own 6 2 0 nl, .int .i64 (us 3), .str (ps 4), .own 7 2 0 nl, .int .i64 (us 4), .str (ps 5), .own 8 2 0 nl, .int .i64 (us 5)] ++ List.replicate r AV.any), .arr 2 ((cs 0).map CAP), .arr 2 ((cs 1).map CAP), .arr 2 ((cs 2).map CAP), .arr 2 ((cs 3).map CAP), .arr 2 ((cs 4).map CAP), .arr 2 ((cs 5).map CAP)] ++ capT p u 9 k⟩) (fun k => k ≤ nl) (fun k => nl - k) 0 hs0 (by omega) ?_
  intro k hk
  unfold cc10l4
  rcases hnl with rfl | rfl
  · rcases (by omega : k = 0 ∨ k = 1) with rfl | rfl
    · simp only [capT]
      simp -implicitDefEqProofs (maxSteps := 500000) (disch := first | decide | omega) only [↓preS, allS, decS, simprocAttr, fillOk, fillAV, List.append_nil]
      refine ⟨1, ?_, by omega, by omega⟩
      simp only [capT, List.replicate, List.map_cons, List.map_nil]
      (refine Sub.ofL [some 0, some 1, some 2, some 3, some 4, some 5, some 6, some 7, some 8, some 9, some 11] rfl (by simp) (by decide) (by simp [partL, AO.ro, AV.ro, AV.roL, names, AO.empty, SB, U8, SI, I64, STR] <;> (try and_intros) <;> rfl) (by simp [AO.bo, AV.bo, AV.boL, names] <;> (try and_intros) <;> rfl) ?_ <;> (try simp only [List.map_cons, List.map_nil, regsL, AV.ro, AV.roL, AV.bo, AV.boL, names, get_here, get_there, Nat.reduceBEq, List.getD_cons_zero, List.getD_cons_succ, List.getD_nil, and_true, true_and, Nat.reduceLT, List.length_cons, List.length_nil, Nat.reduceAdd, decide_true, Option.isSome_some, Bool.true_or, Bool.and_self, Option.isSome_none, Bool.false_or, beq_self_eq_true, wk0_self, wk0_nils]) <;> (try and_intros) <;> (first | done | rfl | exact .inl rfl | exact .inr ⟨rfl, _, _, rfl⟩ | (simp; done) | (simp; omega) | (refine .inl ?_; simp; done) | (refine .inl ?_; simp; omega)))
    · simp only [capT] at hQ ⊢
      simp -implicitDefEqProofs (maxSteps := 500000) (disch := first | decide | omega) only [↓preS, allS, decS, simprocAttr]
      exact hQ
  · rcases (by omega : k = 0 ∨ k = 1 ∨ k = 2) with rfl | rfl | rfl
    · simp only [capT]
      simp -implicitDefEqProofs (maxSteps := 500000) (disch := first | decide | omega) only [↓preS, allS, decS, simprocAttr, fillOk, fillAV, List.append_nil]
      refine ⟨1, ?_, by omega, by omega⟩
      simp only [capT, List.replicate, List.map_cons, List.map_nil]
      (refine Sub.ofL [some 0, some 1, some 2, some 3, some 4, some 5, some 6, some 7, some 8, some 9, some 11] rfl (by simp) (by decide) (by simp [partL, AO.ro, AV.ro, AV.roL, names, AO.empty, SB, U8, SI, I64, STR] <;> (try and_intros) <;> rfl) (by simp [AO.bo, AV.bo, AV.boL, names] <;> (try and_intros) <;> rfl) ?_ <;> (try simp only [List.map_cons, List.map_nil, regsL, AV.ro, AV.roL, AV.bo, AV.boL, names, get_here, get_there, Nat.reduceBEq, List.getD_cons_zero, List.getD_cons_succ, List.getD_nil, and_true, true_and, Nat.reduceLT, List.length_cons, List.length_nil, Nat.reduceAdd, decide_true, Option.isSome_some, Bool.true_or, Bool.and_self, Option.isSome_none, Bool.false_or, beq_self_eq_true, wk0_self, wk0_nils]) <;> (try and_intros) <;> (first | done | rfl | exact .inl rfl | exact .inr ⟨rfl, _, _, rfl⟩ | (simp; done) | (simp; omega) | (refine .inl ?_; simp; done) | (refine .inl ?_; simp; omega)))
    · simp only [capT, List.replicate, List.map_cons, List.map_nil]
      simp -implicitDefEqProofs (maxSteps := 500000) (disch := first | decide | omega) only [↓preS, allS, decS, simprocAttr, fillOk, fillAV, List.append_nil]
      refine ⟨2, ?_, by omega, by omega⟩
      simp only [capT, List.replicate, List.map_cons, List.map_nil]
      (refine Sub.ofL [some 0, some 1, some 2, some 3, some 4, some 5, some 6, some 7, some 8, some 9, some 12] rfl (by simp) (by decide) (by simp [partL, AO.ro, AV.ro, AV.roL, names, AO.empty, SB, U8, SI, I64, STR] <;> (try and_intros) <;> rfl) (by simp [AO.bo, AV.bo, AV.boL, names] <;> (try and_intros) <;> rfl) ?_ <;> (try simp only [List.map_cons, List.map_nil, regsL, AV.ro, AV.roL, AV.bo, AV.boL, names, get_here, get_there, Nat.reduceBEq, List.getD_cons_zero, List.getD_cons_succ, List.getD_nil, and_true, true_and, Nat.reduceLT, List.length_cons, List.length_nil, Nat.reduceAdd, decide_true, Option.isSome_some, Bool.true_or, Bool.and_self, Option.isSome_none, Bool.false_or, beq_self_eq_true, wk0_self, wk0_nils]) <;> (try and_intros) <;> (first | done | rfl | exact .inl rfl | exact .inr ⟨rfl, _, _, rfl⟩ | (simp; done) | (simp; omega) | (refine .inl ?_; simp; done) | (refine .inl ?_; simp; omega)))
    · simp only [capT] at hQ ⊢
      simp -implicitDefEqProofs (maxSteps := 500000) (disch := first | decide | omega) only [↓preS, allS, decS, simprocAttr]
      exact hQ
end Go.Proofs.YtcplpegahpmnjaaDoor
