/- What functions of the program compute. No condition. -/
import Derived.Test.YtceifhcjbmodaaaP1
set_option linter.unusedSimpArgs false
set_option linter.unusedVariables false
namespace Go.Proofs.Ytceifhcjbmodaaa
open Go Go.Ab

/-! ### Clones -/
theorem cl25 (t : Bool) (l : List (List UInt8)) (hl : l.length ≤ 2 ^ 36) : PCall Try.prog 25 [.sl t 1 (l.map AV.str)] (.sl false 1 (l.map AV.str)) := by
  refine PCall.wk3 (acall_of is25 (by simp) ?_)
  unfold cc25
  simp -implicitDefEqProofs (maxSteps := 500000) (disch := first | decide | omega) only [↓preS, ↓reduceIte, allS, Nat.reduceBEq, Nat.reduceAdd, Nat.reduceEqDiff, reduceIte, Int.reduceToNat, Int.reduceLE, Int.reduceLT, Nat.reduceLeDiff, Nat.reduceMul, Nat.reducePow, Nat.reduceLT, Int.reduceBEq, Int.reduceBNe, Int.reduceAdd, Int.reduceSub, Int.reduceMul, Int.reduceGT, Int.reduceGE, decS, Int.reduceNe, Int.reduceEq]
  refine ⟨fun e => ?_, ?_⟩
  · rw [e]
    exact .inl (.inl (.inr ⟨rfl, _, _, rfl⟩))
  · refine ⟨⟨by omega, by omega⟩, ?_⟩
    exact .inl (.inl (.inl rfl))
theorem cl25n : PCall Try.prog 25 [.nils] (.sl false 1 []) := by
  refine PCall.wk3 (acall_of is25 (by simp) ?_)
  unfold cc25
  simp -implicitDefEqProofs (maxSteps := 500000) (disch := first | decide | omega) only [↓preS, ↓reduceIte, allS, Nat.reduceBEq, Nat.reduceAdd, Nat.reduceEqDiff, reduceIte, Int.reduceToNat, Int.reduceLE, Int.reduceLT, Nat.reduceLeDiff, Nat.reduceMul, Nat.reducePow, Nat.reduceLT, Int.reduceBEq, Int.reduceBNe, Int.reduceAdd, Int.reduceSub, Int.reduceMul, Int.reduceGT, Int.reduceGE, decS, Int.reduceNe, Int.reduceEq]
  exact .inl (.inl (.inr ⟨rfl, _, _, rfl⟩))
theorem cl27 (t : Bool) (l : List (Cap)) (hl : l.length ≤ 2 ^ 36) : PCall Try.prog 27 [.sl t 2 (l.map CAP)] (.sl false 2 (l.map CAP)) := by
  refine PCall.wk3 (acall_of is27 (by simp) ?_)
  unfold cc27
  simp -implicitDefEqProofs (maxSteps := 500000) (disch := first | decide | omega) only [↓preS, ↓reduceIte, allS, Nat.reduceBEq, Nat.reduceAdd, Nat.reduceEqDiff, reduceIte, Int.reduceToNat, Int.reduceLE, Int.reduceLT, Nat.reduceLeDiff, Nat.reduceMul, Nat.reducePow, Nat.reduceLT, Int.reduceBEq, Int.reduceBNe, Int.reduceAdd, Int.reduceSub, Int.reduceMul, Int.reduceGT, Int.reduceGE, decS, Int.reduceNe, Int.reduceEq]
  refine ⟨fun e => ?_, ?_⟩
  · rw [e]
    exact .inl (.inl (.inr ⟨rfl, _, _, rfl⟩))
  · refine ⟨⟨by omega, by omega⟩, ?_⟩
    exact .inl (.inl (.inl rfl))
theorem cl27n : PCall Try.prog 27 [.nils] (.sl false 2 []) := by
  refine PCall.wk3 (acall_of is27 (by simp) ?_)
  unfold cc27
  simp -implicitDefEqProofs (maxSteps := 500000) (disch := first | decide | omega) only [↓preS, ↓reduceIte, allS, Nat.reduceBEq, Nat.reduceAdd, Nat.reduceEqDiff, reduceIte, Int.reduceToNat, Int.reduceLE, Int.reduceLT, Nat.reduceLeDiff, Nat.reduceMul, Nat.reducePow, Nat.reduceLT, Int.reduceBEq, Int.reduceBNe, Int.reduceAdd, Int.reduceSub, Int.reduceMul, Int.reduceGT, Int.reduceGE, decS, Int.reduceNe, Int.reduceEq]
  exact .inl (.inl (.inr ⟨rfl, _, _, rfl⟩))
theorem cl28 (t : Bool) (l : List (Node)) (hl : l.length ≤ 2 ^ 36) : PCall Try.prog 28 [.sl t 8 (l.map NODE)] (.sl false 8 (l.map NODE)) := by
  refine PCall.wk3 (acall_of is28 (by simp) ?_)
  unfold cc28
  simp -implicitDefEqProofs (maxSteps := 500000) (disch := first | decide | omega) only [↓preS, ↓reduceIte, allS, Nat.reduceBEq, Nat.reduceAdd, Nat.reduceEqDiff, reduceIte, Int.reduceToNat, Int.reduceLE, Int.reduceLT, Nat.reduceLeDiff, Nat.reduceMul, Nat.reducePow, Nat.reduceLT, Int.reduceBEq, Int.reduceBNe, Int.reduceAdd, Int.reduceSub, Int.reduceMul, Int.reduceGT, Int.reduceGE, decS, Int.reduceNe, Int.reduceEq]
  refine ⟨fun e => ?_, ?_⟩
  · rw [e]
    exact .inl (.inl (.inr ⟨rfl, _, _, rfl⟩))
  · refine ⟨⟨by omega, by omega⟩, ?_⟩
    exact .inl (.inl (.inl rfl))
theorem cl28n : PCall Try.prog 28 [.nils] (.sl false 8 []) := by
  refine PCall.wk3 (acall_of is28 (by simp) ?_)
  unfold cc28
  simp -implicitDefEqProofs (maxSteps := 500000) (disch := first | decide | omega) only [↓preS, ↓reduceIte, allS, Nat.reduceBEq, Nat.reduceAdd, Nat.reduceEqDiff, reduceIte, Int.reduceToNat, Int.reduceLE, Int.reduceLT, Nat.reduceLeDiff, Nat.reduceMul, Nat.reducePow, Nat.reduceLT, Int.reduceBEq, Int.reduceBNe, Int.reduceAdd, Int.reduceSub, Int.reduceMul, Int.reduceGT, Int.reduceGE, decS, Int.reduceNe, Int.reduceEq]
  exact .inl (.inl (.inr ⟨rfl, _, _, rfl⟩))
theorem cl31 (t : Bool) (l : List (Plan)) (hl : l.length ≤ 2 ^ 36) : PCall Try.prog 31 [.sl t 6 (l.map PLAN)] (.sl false 6 (l.map PLAN)) := by
  refine PCall.wk3 (acall_of is31 (by simp) ?_)
  unfold cc31
  simp -implicitDefEqProofs (maxSteps := 500000) (disch := first | decide | omega) only [↓preS, ↓reduceIte, allS, Nat.reduceBEq, Nat.reduceAdd, Nat.reduceEqDiff, reduceIte, Int.reduceToNat, Int.reduceLE, Int.reduceLT, Nat.reduceLeDiff, Nat.reduceMul, Nat.reducePow, Nat.reduceLT, Int.reduceBEq, Int.reduceBNe, Int.reduceAdd, Int.reduceSub, Int.reduceMul, Int.reduceGT, Int.reduceGE, decS, Int.reduceNe, Int.reduceEq]
  refine ⟨fun e => ?_, ?_⟩
  · rw [e]
    exact .inl (.inl (.inr ⟨rfl, _, _, rfl⟩))
  · refine ⟨⟨by omega, by omega⟩, ?_⟩
    exact .inl (.inl (.inl rfl))
theorem cl31n : PCall Try.prog 31 [.nils] (.sl false 6 []) := by
  refine PCall.wk3 (acall_of is31 (by simp) ?_)
  unfold cc31
  simp -implicitDefEqProofs (maxSteps := 500000) (disch := first | decide | omega) only [↓preS, ↓reduceIte, allS, Nat.reduceBEq, Nat.reduceAdd, Nat.reduceEqDiff, reduceIte, Int.reduceToNat, Int.reduceLE, Int.reduceLT, Nat.reduceLeDiff, Nat.reduceMul, Nat.reducePow, Nat.reduceLT, Int.reduceBEq, Int.reduceBNe, Int.reduceAdd, Int.reduceSub, Int.reduceMul, Int.reduceGT, Int.reduceGE, decS, Int.reduceNe, Int.reduceEq]
  exact .inl (.inl (.inr ⟨rfl, _, _, rfl⟩))
theorem cl38 (t : Bool) (l : List (Ask)) (hl : l.length ≤ 2 ^ 36) : PCall Try.prog 38 [.sl t 8 (l.map ASK)] (.sl false 8 (l.map ASK)) := by
  refine PCall.wk3 (acall_of is38 (by simp) ?_)
  unfold cc38
  simp -implicitDefEqProofs (maxSteps := 500000) (disch := first | decide | omega) only [↓preS, ↓reduceIte, allS, Nat.reduceBEq, Nat.reduceAdd, Nat.reduceEqDiff, reduceIte, Int.reduceToNat, Int.reduceLE, Int.reduceLT, Nat.reduceLeDiff, Nat.reduceMul, Nat.reducePow, Nat.reduceLT, Int.reduceBEq, Int.reduceBNe, Int.reduceAdd, Int.reduceSub, Int.reduceMul, Int.reduceGT, Int.reduceGE, decS, Int.reduceNe, Int.reduceEq]
  refine ⟨fun e => ?_, ?_⟩
  · rw [e]
    exact .inl (.inl (.inr ⟨rfl, _, _, rfl⟩))
  · refine ⟨⟨by omega, by omega⟩, ?_⟩
    exact .inl (.inl (.inl rfl))
theorem cl38n : PCall Try.prog 38 [.nils] (.sl false 8 []) := by
  refine PCall.wk3 (acall_of is38 (by simp) ?_)
  unfold cc38
  simp -implicitDefEqProofs (maxSteps := 500000) (disch := first | decide | omega) only [↓preS, ↓reduceIte, allS, Nat.reduceBEq, Nat.reduceAdd, Nat.reduceEqDiff, reduceIte, Int.reduceToNat, Int.reduceLE, Int.reduceLT, Nat.reduceLeDiff, Nat.reduceMul, Nat.reducePow, Nat.reduceLT, Int.reduceBEq, Int.reduceBNe, Int.reduceAdd, Int.reduceSub, Int.reduceMul, Int.reduceGT, Int.reduceGE, decS, Int.reduceNe, Int.reduceEq]
  exact .inl (.inl (.inr ⟨rfl, _, _, rfl⟩))
theorem cl26 (t : Bool) (l : List (Queue)) (hl : l.length ≤ 2 ^ 36) : ACall Try.prog 26 [.sl t 3 (l.map QUE)] [] fun y G => y = .own 0 3 0 l.length ∧ G = [.arr 3 (l.map QUE)] := by
  have key : ACall Try.prog 26 [.sl t 3 (l.map QUE)] [] fun y G => (l = [] ∧ y = .nils ∧ G = []) ∨ (y = .own 1 3 0 l.length ∧ G = [.dead, .arr 3 (l.map QUE)]) := by
    refine acall_of is26 (by simp) ?_
    unfold cc26
    simp -implicitDefEqProofs (maxSteps := 500000) (disch := first | decide | omega) only [↓preS, ↓reduceIte, allS, Nat.reduceBEq, Nat.reduceAdd, Nat.reduceEqDiff, reduceIte, Int.reduceToNat, Int.reduceLE, Int.reduceLT, Nat.reduceLeDiff, Nat.reduceMul, Nat.reducePow, Nat.reduceLT, Int.reduceBEq, Int.reduceBNe, Int.reduceAdd, Int.reduceSub, Int.reduceMul, Int.reduceGT, Int.reduceGE, decS, Int.reduceNe, Int.reduceEq]
    exact ⟨fun e => .inl (List.map_eq_nil_iff.1 e), by omega, by omega⟩
  refine key.sub ?_
  rintro y G (⟨rfl, rfl, rfl⟩ | ⟨rfl, rfl⟩)
  · refine ⟨_, _, ?_, rfl, rfl⟩
    (refine Sub.ofL [none] rfl (by simp) (by decide) (by simp [partL, AO.ro, AV.ro, AV.roL, names, AO.empty, SB, U8, SI, I64, STR] <;> (try and_intros) <;> rfl) (by simp [AO.bo, AV.bo, AV.boL, names] <;> (try and_intros) <;> rfl) ?_ <;> (try simp only [List.map_cons, List.map_nil, regsL, AV.ro, AV.roL, AV.bo, AV.boL, names, get_here, get_there, Nat.reduceBEq, List.getD_cons_zero, List.getD_cons_succ, List.getD_nil, and_true, true_and, Nat.reduceLT, List.length_cons, List.length_nil, Nat.reduceAdd, decide_true, Option.isSome_some, Bool.true_or, Bool.and_self, Option.isSome_none, Bool.false_or, beq_self_eq_true, wk0_self, wk0_nils]) <;> (try and_intros) <;> (first | done | rfl | exact .inl rfl | exact .inr ⟨rfl, _, _, rfl⟩ | (simp; done) | (simp; omega) | (refine .inl ?_; simp; done) | (refine .inl ?_; simp; omega)))
  · refine ⟨_, _, ?_, rfl, rfl⟩
    (refine Sub.ofL [some 1] rfl (by simp) (by decide) (by simp [partL, AO.ro, AV.ro, AV.roL, names, AO.empty, SB, U8, SI, I64, STR] <;> (try and_intros) <;> rfl) (by simp [AO.bo, AV.bo, AV.boL, names] <;> (try and_intros) <;> rfl) ?_ <;> (try simp only [List.map_cons, List.map_nil, regsL, AV.ro, AV.roL, AV.bo, AV.boL, names, get_here, get_there, Nat.reduceBEq, List.getD_cons_zero, List.getD_cons_succ, List.getD_nil, and_true, true_and, Nat.reduceLT, List.length_cons, List.length_nil, Nat.reduceAdd, decide_true, Option.isSome_some, Bool.true_or, Bool.and_self, Option.isSome_none, Bool.false_or, beq_self_eq_true, wk0_self, wk0_nils]) <;> (try and_intros) <;> (first | done | rfl | exact .inl rfl | exact .inr ⟨rfl, _, _, rfl⟩ | (simp; done) | (simp; omega) | (refine .inl ?_; simp; done) | (refine .inl ?_; simp; omega)))
theorem cl29 (t : Bool) (l : List (Cont)) (hl : l.length ≤ 2 ^ 36) : ACall Try.prog 29 [.sl t 9 (l.map CONT)] [] fun y G => y = .own 0 9 0 l.length ∧ G = [.arr 9 (l.map CONT)] := by
  have key : ACall Try.prog 29 [.sl t 9 (l.map CONT)] [] fun y G => (l = [] ∧ y = .nils ∧ G = []) ∨ (y = .own 1 9 0 l.length ∧ G = [.dead, .arr 9 (l.map CONT)]) := by
    refine acall_of is29 (by simp) ?_
    unfold cc29
    simp -implicitDefEqProofs (maxSteps := 500000) (disch := first | decide | omega) only [↓preS, ↓reduceIte, allS, Nat.reduceBEq, Nat.reduceAdd, Nat.reduceEqDiff, reduceIte, Int.reduceToNat, Int.reduceLE, Int.reduceLT, Nat.reduceLeDiff, Nat.reduceMul, Nat.reducePow, Nat.reduceLT, Int.reduceBEq, Int.reduceBNe, Int.reduceAdd, Int.reduceSub, Int.reduceMul, Int.reduceGT, Int.reduceGE, decS, Int.reduceNe, Int.reduceEq]
    exact ⟨fun e => .inl (List.map_eq_nil_iff.1 e), by omega, by omega⟩
  refine key.sub ?_
  rintro y G (⟨rfl, rfl, rfl⟩ | ⟨rfl, rfl⟩)
  · refine ⟨_, _, ?_, rfl, rfl⟩
    (refine Sub.ofL [none] rfl (by simp) (by decide) (by simp [partL, AO.ro, AV.ro, AV.roL, names, AO.empty, SB, U8, SI, I64, STR] <;> (try and_intros) <;> rfl) (by simp [AO.bo, AV.bo, AV.boL, names] <;> (try and_intros) <;> rfl) ?_ <;> (try simp only [List.map_cons, List.map_nil, regsL, AV.ro, AV.roL, AV.bo, AV.boL, names, get_here, get_there, Nat.reduceBEq, List.getD_cons_zero, List.getD_cons_succ, List.getD_nil, and_true, true_and, Nat.reduceLT, List.length_cons, List.length_nil, Nat.reduceAdd, decide_true, Option.isSome_some, Bool.true_or, Bool.and_self, Option.isSome_none, Bool.false_or, beq_self_eq_true, wk0_self, wk0_nils]) <;> (try and_intros) <;> (first | done | rfl | exact .inl rfl | exact .inr ⟨rfl, _, _, rfl⟩ | (simp; done) | (simp; omega) | (refine .inl ?_; simp; done) | (refine .inl ?_; simp; omega)))
  · refine ⟨_, _, ?_, rfl, rfl⟩
    (refine Sub.ofL [some 1] rfl (by simp) (by decide) (by simp [partL, AO.ro, AV.ro, AV.roL, names, AO.empty, SB, U8, SI, I64, STR] <;> (try and_intros) <;> rfl) (by simp [AO.bo, AV.bo, AV.boL, names] <;> (try and_intros) <;> rfl) ?_ <;> (try simp only [List.map_cons, List.map_nil, regsL, AV.ro, AV.roL, AV.bo, AV.boL, names, get_here, get_there, Nat.reduceBEq, List.getD_cons_zero, List.getD_cons_succ, List.getD_nil, and_true, true_and, Nat.reduceLT, List.length_cons, List.length_nil, Nat.reduceAdd, decide_true, Option.isSome_some, Bool.true_or, Bool.and_self, Option.isSome_none, Bool.false_or, beq_self_eq_true, wk0_self, wk0_nils]) <;> (try and_intros) <;> (first | done | rfl | exact .inl rfl | exact .inr ⟨rfl, _, _, rfl⟩ | (simp; done) | (simp; omega) | (refine .inl ?_; simp; done) | (refine .inl ?_; simp; omega)))
theorem cl30 (t : Bool) (l : List (Slot)) (hl : l.length ≤ 2 ^ 36) : ACall Try.prog 30 [.sl t 3 (l.map SLOT)] [] fun y G => y = .own 0 3 0 l.length ∧ G = [.arr 3 (l.map SLOT)] := by
  have key : ACall Try.prog 30 [.sl t 3 (l.map SLOT)] [] fun y G => (l = [] ∧ y = .nils ∧ G = []) ∨ (y = .own 1 3 0 l.length ∧ G = [.dead, .arr 3 (l.map SLOT)]) := by
    refine acall_of is30 (by simp) ?_
    unfold cc30
    simp -implicitDefEqProofs (maxSteps := 500000) (disch := first | decide | omega) only [↓preS, ↓reduceIte, allS, Nat.reduceBEq, Nat.reduceAdd, Nat.reduceEqDiff, reduceIte, Int.reduceToNat, Int.reduceLE, Int.reduceLT, Nat.reduceLeDiff, Nat.reduceMul, Nat.reducePow, Nat.reduceLT, Int.reduceBEq, Int.reduceBNe, Int.reduceAdd, Int.reduceSub, Int.reduceMul, Int.reduceGT, Int.reduceGE, decS, Int.reduceNe, Int.reduceEq]
    exact ⟨fun e => .inl (List.map_eq_nil_iff.1 e), by omega, by omega⟩
  refine key.sub ?_
  rintro y G (⟨rfl, rfl, rfl⟩ | ⟨rfl, rfl⟩)
  · refine ⟨_, _, ?_, rfl, rfl⟩
    (refine Sub.ofL [none] rfl (by simp) (by decide) (by simp [partL, AO.ro, AV.ro, AV.roL, names, AO.empty, SB, U8, SI, I64, STR] <;> (try and_intros) <;> rfl) (by simp [AO.bo, AV.bo, AV.boL, names] <;> (try and_intros) <;> rfl) ?_ <;> (try simp only [List.map_cons, List.map_nil, regsL, AV.ro, AV.roL, AV.bo, AV.boL, names, get_here, get_there, Nat.reduceBEq, List.getD_cons_zero, List.getD_cons_succ, List.getD_nil, and_true, true_and, Nat.reduceLT, List.length_cons, List.length_nil, Nat.reduceAdd, decide_true, Option.isSome_some, Bool.true_or, Bool.and_self, Option.isSome_none, Bool.false_or, beq_self_eq_true, wk0_self, wk0_nils]) <;> (try and_intros) <;> (first | done | rfl | exact .inl rfl | exact .inr ⟨rfl, _, _, rfl⟩ | (simp; done) | (simp; omega) | (refine .inl ?_; simp; done) | (refine .inl ?_; simp; omega)))
  · refine ⟨_, _, ?_, rfl, rfl⟩
    (refine Sub.ofL [some 1] rfl (by simp) (by decide) (by simp [partL, AO.ro, AV.ro, AV.roL, names, AO.empty, SB, U8, SI, I64, STR] <;> (try and_intros) <;> rfl) (by simp [AO.bo, AV.bo, AV.boL, names] <;> (try and_intros) <;> rfl) ?_ <;> (try simp only [List.map_cons, List.map_nil, regsL, AV.ro, AV.roL, AV.bo, AV.boL, names, get_here, get_there, Nat.reduceBEq, List.getD_cons_zero, List.getD_cons_succ, List.getD_nil, and_true, true_and, Nat.reduceLT, List.length_cons, List.length_nil, Nat.reduceAdd, decide_true, Option.isSome_some, Bool.true_or, Bool.and_self, Option.isSome_none, Bool.false_or, beq_self_eq_true, wk0_self, wk0_nils]) <;> (try and_intros) <;> (first | done | rfl | exact .inl rfl | exact .inr ⟨rfl, _, _, rfl⟩ | (simp; done) | (simp; omega) | (refine .inl ?_; simp; done) | (refine .inl ?_; simp; omega)))
theorem cl32 (t : Bool) (l : List (App)) (hl : l.length ≤ 2 ^ 36) : ACall Try.prog 32 [.sl t 14 (l.map APP)] [] fun y G => y = .own 0 14 0 l.length ∧ G = [.arr 14 (l.map APP)] := by
  have key : ACall Try.prog 32 [.sl t 14 (l.map APP)] [] fun y G => (l = [] ∧ y = .nils ∧ G = []) ∨ (y = .own 1 14 0 l.length ∧ G = [.dead, .arr 14 (l.map APP)]) := by
    refine acall_of is32 (by simp) ?_
    unfold cc32
    simp -implicitDefEqProofs (maxSteps := 500000) (disch := first | decide | omega) only [↓preS, ↓reduceIte, allS, Nat.reduceBEq, Nat.reduceAdd, Nat.reduceEqDiff, reduceIte, Int.reduceToNat, Int.reduceLE, Int.reduceLT, Nat.reduceLeDiff, Nat.reduceMul, Nat.reducePow, Nat.reduceLT, Int.reduceBEq, Int.reduceBNe, Int.reduceAdd, Int.reduceSub, Int.reduceMul, Int.reduceGT, Int.reduceGE, decS, Int.reduceNe, Int.reduceEq]
    exact ⟨fun e => .inl (List.map_eq_nil_iff.1 e), by omega, by omega⟩
  refine key.sub ?_
  rintro y G (⟨rfl, rfl, rfl⟩ | ⟨rfl, rfl⟩)
  · refine ⟨_, _, ?_, rfl, rfl⟩
    (refine Sub.ofL [none] rfl (by simp) (by decide) (by simp [partL, AO.ro, AV.ro, AV.roL, names, AO.empty, SB, U8, SI, I64, STR] <;> (try and_intros) <;> rfl) (by simp [AO.bo, AV.bo, AV.boL, names] <;> (try and_intros) <;> rfl) ?_ <;> (try simp only [List.map_cons, List.map_nil, regsL, AV.ro, AV.roL, AV.bo, AV.boL, names, get_here, get_there, Nat.reduceBEq, List.getD_cons_zero, List.getD_cons_succ, List.getD_nil, and_true, true_and, Nat.reduceLT, List.length_cons, List.length_nil, Nat.reduceAdd, decide_true, Option.isSome_some, Bool.true_or, Bool.and_self, Option.isSome_none, Bool.false_or, beq_self_eq_true, wk0_self, wk0_nils]) <;> (try and_intros) <;> (first | done | rfl | exact .inl rfl | exact .inr ⟨rfl, _, _, rfl⟩ | (simp; done) | (simp; omega) | (refine .inl ?_; simp; done) | (refine .inl ?_; simp; omega)))
  · refine ⟨_, _, ?_, rfl, rfl⟩
    (refine Sub.ofL [some 1] rfl (by simp) (by decide) (by simp [partL, AO.ro, AV.ro, AV.roL, names, AO.empty, SB, U8, SI, I64, STR] <;> (try and_intros) <;> rfl) (by simp [AO.bo, AV.bo, AV.boL, names] <;> (try and_intros) <;> rfl) ?_ <;> (try simp only [List.map_cons, List.map_nil, regsL, AV.ro, AV.roL, AV.bo, AV.boL, names, get_here, get_there, Nat.reduceBEq, List.getD_cons_zero, List.getD_cons_succ, List.getD_nil, and_true, true_and, Nat.reduceLT, List.length_cons, List.length_nil, Nat.reduceAdd, decide_true, Option.isSome_some, Bool.true_or, Bool.and_self, Option.isSome_none, Bool.false_or, beq_self_eq_true, wk0_self, wk0_nils]) <;> (try and_intros) <;> (first | done | rfl | exact .inl rfl | exact .inr ⟨rfl, _, _, rfl⟩ | (simp; done) | (simp; omega) | (refine .inl ?_; simp; done) | (refine .inl ?_; simp; omega)))
theorem ints_ok (t : Bool) (l : List Int) (hl : l.length ≤ 2 ^ 36) : PCall Try.prog 39 [.sl t 1 (l.map I64)] (.sl false 1 (l.map I64)) := by
  refine PCall.wk3 (acall_of is39 (by simp) ?_)
  unfold cc39
  simp -implicitDefEqProofs (maxSteps := 500000) (disch := first | decide | omega) only [↓preS, ↓reduceIte, allS, Nat.reduceBEq, Nat.reduceAdd, Nat.reduceEqDiff, reduceIte, Int.reduceToNat, Int.reduceLE, Int.reduceLT, Nat.reduceLeDiff, Nat.reduceMul, Nat.reducePow, Nat.reduceLT, Int.reduceBEq, Int.reduceBNe, Int.reduceAdd, Int.reduceSub, Int.reduceMul, Int.reduceGT, Int.reduceGE, decS, Int.reduceNe, Int.reduceEq]
  have e : (l.map I64 ++ (List.replicate l.length (AV.int .i64 0)).drop l.length).take l.length = l.map I64 := List.take_left' (by simp)
  rw [e]
  exact ⟨by omega, by omega, by omega, by omega, .inl (.inl (.inl rfl))⟩
theorem appl_ok (a : App) (h1 : a.asks.length ≤ 2 ^ 36) (h2 : a.grants.length ≤ 2 ^ 36) (h3 : a.kills.length ≤ 2 ^ 36) (h4 : a.told.length ≤ 2 ^ 36) (h5 : a.lost.length ≤ 2 ^ 36) : PCall Try.prog 23 [APP a] (APP a) := by
  unfold PCall
  refine acallR_of isR23 (by simp) ?_
  unfold cc23
  simp -implicitDefEqProofs (maxSteps := 500000) (disch := first | decide | omega) only [↓preS, ↓reduceIte, allS, Nat.reduceBEq, Nat.reduceAdd, Nat.reduceEqDiff, reduceIte, Int.reduceToNat, Int.reduceLE, Int.reduceLT, Nat.reduceLeDiff, Nat.reduceMul, Nat.reducePow, Nat.reduceLT, Int.reduceBEq, Int.reduceBNe, Int.reduceAdd, Int.reduceSub, Int.reduceMul, Int.reduceGT, Int.reduceGE, decS, Int.reduceNe, Int.reduceEq, appS, appT, List.append_nil]
  refine fcK_of (FCall.of (lent := false) (cl38 false _ h1) (.refl rfl) rfl (by simp)) ?_
  simp -implicitDefEqProofs (maxSteps := 500000) (disch := first | decide | omega) only [↓preS, ↓reduceIte, allS, Nat.reduceBEq, Nat.reduceAdd, Nat.reduceEqDiff, reduceIte, Int.reduceToNat, Int.reduceLE, Int.reduceLT, Nat.reduceLeDiff, Nat.reduceMul, Nat.reducePow, Nat.reduceLT, Int.reduceBEq, Int.reduceBNe, Int.reduceAdd, Int.reduceSub, Int.reduceMul, Int.reduceGT, Int.reduceGE, decS, Int.reduceNe, Int.reduceEq, appS, appT]
  refine fcK_of (FCall.of (lent := false) (ints_ok false _ h2) (.refl rfl) rfl (by simp)) ?_
  simp -implicitDefEqProofs (maxSteps := 500000) (disch := first | decide | omega) only [↓preS, ↓reduceIte, allS, Nat.reduceBEq, Nat.reduceAdd, Nat.reduceEqDiff, reduceIte, Int.reduceToNat, Int.reduceLE, Int.reduceLT, Nat.reduceLeDiff, Nat.reduceMul, Nat.reducePow, Nat.reduceLT, Int.reduceBEq, Int.reduceBNe, Int.reduceAdd, Int.reduceSub, Int.reduceMul, Int.reduceGT, Int.reduceGE, decS, Int.reduceNe, Int.reduceEq, appS, appT]
  refine fcK_of (FCall.of (lent := false) (ints_ok false _ h3) (.refl rfl) rfl (by simp)) ?_
  simp -implicitDefEqProofs (maxSteps := 500000) (disch := first | decide | omega) only [↓preS, ↓reduceIte, allS, Nat.reduceBEq, Nat.reduceAdd, Nat.reduceEqDiff, reduceIte, Int.reduceToNat, Int.reduceLE, Int.reduceLT, Nat.reduceLeDiff, Nat.reduceMul, Nat.reducePow, Nat.reduceLT, Int.reduceBEq, Int.reduceBNe, Int.reduceAdd, Int.reduceSub, Int.reduceMul, Int.reduceGT, Int.reduceGE, decS, Int.reduceNe, Int.reduceEq, appS, appT]
  refine fcK_of (FCall.of (lent := false) (ints_ok false _ h4) (.refl rfl) rfl (by simp)) ?_
  simp -implicitDefEqProofs (maxSteps := 500000) (disch := first | decide | omega) only [↓preS, ↓reduceIte, allS, Nat.reduceBEq, Nat.reduceAdd, Nat.reduceEqDiff, reduceIte, Int.reduceToNat, Int.reduceLE, Int.reduceLT, Nat.reduceLeDiff, Nat.reduceMul, Nat.reducePow, Nat.reduceLT, Int.reduceBEq, Int.reduceBNe, Int.reduceAdd, Int.reduceSub, Int.reduceMul, Int.reduceGT, Int.reduceGE, decS, Int.reduceNe, Int.reduceEq, appS, appT]
  refine fcK_of (FCall.of (lent := false) (ints_ok false _ h5) (.refl rfl) rfl (by simp)) ?_
  simp -implicitDefEqProofs (maxSteps := 500000) (disch := first | decide | omega) only [↓preS, ↓reduceIte, allS, Nat.reduceBEq, Nat.reduceAdd, Nat.reduceEqDiff, reduceIte, Int.reduceToNat, Int.reduceLE, Int.reduceLT, Nat.reduceLeDiff, Nat.reduceMul, Nat.reducePow, Nat.reduceLT, Int.reduceBEq, Int.reduceBNe, Int.reduceAdd, Int.reduceSub, Int.reduceMul, Int.reduceGT, Int.reduceGE, decS, Int.reduceNe, Int.reduceEq, appS, appT, List.append_nil]
end Go.Proofs.Ytceifhcjbmodaaa
