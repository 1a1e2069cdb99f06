/- What functions of the program compute. No condition. -/
import Derived.Test.YtceifhcjbmodaaaP5
set_option linter.unusedSimpArgs false
set_option linter.unusedVariables false
namespace Go.Proofs.Ytceifhcjbmodaaa
open Go Go.Ab

/-! ### The first ask -/
theorem own48 : ACall Try.prog 48 [.nils] [] fun y G => y = .own 0 8 0 0 ∧ G = [.arr 8 []] := by
  refine acall_of is48 (by simp) ?_
  unfold cc48
  simp -implicitDefEqProofs (maxSteps := 500000) (disch := first | decide | omega) only [↓preS, ↓reduceIte, allS, Nat.reduceBEq, Nat.reduceAdd, Nat.reduceEqDiff, reduceIte, Int.reduceToNat, Int.reduceLE, Int.reduceLT, Nat.reduceLeDiff, Nat.reduceMul, Nat.reducePow, Nat.reduceLT, Int.reduceBEq, Int.reduceBNe, Int.reduceAdd, Int.reduceSub, Int.reduceMul, Int.reduceGT, Int.reduceGE, decS, Int.reduceNe, Int.reduceEq]
  exact ⟨by decide, by decide⟩
def FN49 : AV := .fn (.func 49) [] [.ref 0 0 0]
theorem idx56 (a : Ask) : ACall Try.prog 56 [.own 1 8 0 0, FN49] [.box (askC a), .arr 8 []] fun y G => y = .int .i64 (-1) ∧ G = [.box (askC a), .arr 8 []] := by
  refine acall_at is56 (by simp) rfl ?_
  unfold cc56 FN49
  simp -implicitDefEqProofs (maxSteps := 500000) (disch := first | decide | omega) only [↓preS, ↓reduceIte, allS, Nat.reduceBEq, Nat.reduceAdd, Nat.reduceEqDiff, reduceIte, Int.reduceToNat, Int.reduceLE, Int.reduceLT, Nat.reduceLeDiff, Nat.reduceMul, Nat.reducePow, Nat.reduceLT, Int.reduceBEq, Int.reduceBNe, Int.reduceAdd, Int.reduceSub, Int.reduceMul, Int.reduceGT, Int.reduceGE, decS, Int.reduceNe, Int.reduceEq]
  unfold cc56L0
  simp -implicitDefEqProofs (maxSteps := 500000) (disch := first | decide | omega) only [↓preS, ↓reduceIte, allS, Nat.reduceBEq, Nat.reduceAdd, Nat.reduceEqDiff, reduceIte, Int.reduceToNat, Int.reduceLE, Int.reduceLT, Nat.reduceLeDiff, Nat.reduceMul, Nat.reducePow, Nat.reduceLT, Int.reduceBEq, Int.reduceBNe, Int.reduceAdd, Int.reduceSub, Int.reduceMul, Int.reduceGT, Int.reduceGE, decS, Int.reduceNe, Int.reduceEq]
  refine aw_loopS (σ := Unit) (fun _ => ⟨[(0, .own 1 8 0 0), (1, .fn (.func 49) [] [.ref 0 0 0]), (7, .int .i64 0), (8, .int .i64 0)], [.box (askC a), .arr 8 []]⟩) (fun _ => True) (fun _ => 0) () (.inl rfl) trivial ?_
  intro _ _
  unfold cc56l0
  simp -implicitDefEqProofs (maxSteps := 500000) (disch := first | decide | omega) only [↓preS, ↓reduceIte, allS, Nat.reduceBEq, Nat.reduceAdd, Nat.reduceEqDiff, reduceIte, Int.reduceToNat, Int.reduceLE, Int.reduceLT, Nat.reduceLeDiff, Nat.reduceMul, Nat.reducePow, Nat.reduceLT, Int.reduceBEq, Int.reduceBNe, Int.reduceAdd, Int.reduceSub, Int.reduceMul, Int.reduceGT, Int.reduceGE, decS, Int.reduceNe, Int.reduceEq]
theorem del47 (a : Ask) : ACall Try.prog 47 [.own 1 8 0 0, FN49] [.box (askC a), .arr 8 []] fun y G => y = .own 1 8 0 0 ∧ G = [.box (askC a), .arr 8 []] := by
  refine acall_at is47 (by simp) rfl ?_
  unfold cc47 FN49
  simp -implicitDefEqProofs (maxSteps := 500000) (disch := first | decide | omega) only [↓preS, ↓reduceIte, allS, Nat.reduceBEq, Nat.reduceAdd, Nat.reduceEqDiff, reduceIte, Int.reduceToNat, Int.reduceLE, Int.reduceLT, Nat.reduceLeDiff, Nat.reduceMul, Nat.reducePow, Nat.reduceLT, Int.reduceBEq, Int.reduceBNe, Int.reduceAdd, Int.reduceSub, Int.reduceMul, Int.reduceGT, Int.reduceGE, decS, Int.reduceNe, Int.reduceEq]
  refine (idx56 a).to ?_
  rintro y G ⟨rfl, rfl⟩
  simp -implicitDefEqProofs (maxSteps := 500000) (disch := first | decide | omega) only [↓preS, ↓reduceIte, allS, Nat.reduceBEq, Nat.reduceAdd, Nat.reduceEqDiff, reduceIte, Int.reduceToNat, Int.reduceLE, Int.reduceLT, Nat.reduceLeDiff, Nat.reduceMul, Nat.reducePow, Nat.reduceLT, Int.reduceBEq, Int.reduceBNe, Int.reduceAdd, Int.reduceSub, Int.reduceMul, Int.reduceGT, Int.reduceGE, decS, Int.reduceNe, Int.reduceEq]
theorem ins50 (x : Ask) : ACall Try.prog 50 [.own 0 8 0 0, .int .i64 0, .own 1 8 0 1] [.arr 8 [], .arr 8 [ASK x]] fun y G => y = .sl false 8 [ASK x] := by
  refine acall_at is50 (by simp) rfl ?_
  unfold cc50
  simp -implicitDefEqProofs (maxSteps := 500000) (disch := first | decide | omega) only [↓preS, ↓reduceIte, allS, Nat.reduceBEq, Nat.reduceAdd, Nat.reduceEqDiff, reduceIte, Int.reduceToNat, Int.reduceLE, Int.reduceLT, Nat.reduceLeDiff, Nat.reduceMul, Nat.reducePow, Nat.reduceLT, Int.reduceBEq, Int.reduceBNe, Int.reduceAdd, Int.reduceSub, Int.reduceMul, Int.reduceGT, Int.reduceGE, decS, Int.reduceNe, Int.reduceEq]
theorem set36 (a : Ask) (h : a.count ≠ 0) : PCall Try.prog 36 [.nils, ASK a] (.tup [.sl false 8 [ASK { a with missed := 0 }], .int .i64 0]) := by
  unfold PCall
  refine acall_of is36 (by simp) ?_
  unfold cc36
  simp -implicitDefEqProofs (maxSteps := 500000) (disch := first | decide | omega) only [↓preS, ↓reduceIte, allS, Nat.reduceBEq, Nat.reduceAdd, Nat.reduceEqDiff, reduceIte, Int.reduceToNat, Int.reduceLE, Int.reduceLT, Nat.reduceLeDiff, Nat.reduceMul, Nat.reducePow, Nat.reduceLT, Int.reduceBEq, Int.reduceBNe, Int.reduceAdd, Int.reduceSub, Int.reduceMul, Int.reduceGT, Int.reduceGE, decS, Int.reduceNe, Int.reduceEq, askS]
  refine acK_new own48 rfl rfl ?_
  rintro y G ⟨rfl, rfl⟩
  simp -implicitDefEqProofs (maxSteps := 500000) (disch := first | decide | omega) only [↓preS, ↓reduceIte, allS, Nat.reduceBEq, Nat.reduceAdd, Nat.reduceEqDiff, reduceIte, Int.reduceToNat, Int.reduceLE, Int.reduceLT, Nat.reduceLeDiff, Nat.reduceMul, Nat.reducePow, Nat.reduceLT, Int.reduceBEq, Int.reduceBNe, Int.reduceAdd, Int.reduceSub, Int.reduceMul, Int.reduceGT, Int.reduceGE, decS, Int.reduceNe, Int.reduceEq, AV.ren, AO.ren, up]
  refine (del47 a).to ?_
  rintro y G ⟨rfl, rfl⟩
  simp -implicitDefEqProofs (maxSteps := 500000) (disch := first | decide | omega) only [↓preS, ↓reduceIte, allS, Nat.reduceBEq, Nat.reduceAdd, Nat.reduceEqDiff, reduceIte, Int.reduceToNat, Int.reduceLE, Int.reduceLT, Nat.reduceLeDiff, Nat.reduceMul, Nat.reducePow, Nat.reduceLT, Int.reduceBEq, Int.reduceBNe, Int.reduceAdd, Int.reduceSub, Int.reduceMul, Int.reduceGT, Int.reduceGE, decS, Int.reduceNe, Int.reduceEq, askS, askT]
  unfold cc36L0
  simp -implicitDefEqProofs (maxSteps := 500000) (disch := first | decide | omega) only [↓preS, ↓reduceIte, allS, Nat.reduceBEq, Nat.reduceAdd, Nat.reduceEqDiff, reduceIte, Int.reduceToNat, Int.reduceLE, Int.reduceLT, Nat.reduceLeDiff, Nat.reduceMul, Nat.reducePow, Nat.reduceLT, Int.reduceBEq, Int.reduceBNe, Int.reduceAdd, Int.reduceSub, Int.reduceMul, Int.reduceGT, Int.reduceGE, decS, Int.reduceNe, Int.reduceEq]
  generalize hx : ({ prio := a.prio, label := a.label, mem := a.mem, cores := a.cores, count := a.count, node := a.node, rack := a.rack, missed := 0 } : Ask) = x
  refine aw_loopS (σ := Unit) (fun _ => ⟨[(3, .ref 0 0 0), (6, .own 1 8 0 0), (7, .int .i64 0)], [.box (askC x), .arr 8 []]⟩) (fun _ => True) (fun _ => 0) () (.inl rfl) trivial ?_
  intro _ _
  unfold cc36l0
  simp -implicitDefEqProofs (maxSteps := 500000) (disch := first | decide | omega) only [↓preS, ↓reduceIte, allS, Nat.reduceBEq, Nat.reduceAdd, Nat.reduceEqDiff, reduceIte, Int.reduceToNat, Int.reduceLE, Int.reduceLT, Nat.reduceLeDiff, Nat.reduceMul, Nat.reducePow, Nat.reduceLT, Int.reduceBEq, Int.reduceBNe, Int.reduceAdd, Int.reduceSub, Int.reduceMul, Int.reduceGT, Int.reduceGE, decS, Int.reduceNe, Int.reduceEq, askS, List.append_nil]
  refine ((ins50 x).frame [1, 2] rfl (by simp) (by simp) ?_ rfl).to ?_
  · intro k o hk
    match k, hk with
    | 0, hk => simp only [List.getElem?_cons_zero, Option.some.injEq] at hk; subst hk; exact ⟨rfl, rfl⟩
    | 1, hk => simp only [List.getElem?_cons_succ, List.getElem?_cons_zero, Option.some.injEq] at hk; subst hk; exact ⟨rfl, rfl⟩
    | k + 2, hk => simp at hk
  rintro y G ⟨y0, Hr, rfl, rfl, rfl⟩
  simp -implicitDefEqProofs (maxSteps := 500000) (disch := first | decide | omega) only [↓preS, ↓reduceIte, allS, Nat.reduceBEq, Nat.reduceAdd, Nat.reduceEqDiff, reduceIte, Int.reduceToNat, Int.reduceLE, Int.reduceLT, Nat.reduceLeDiff, Nat.reduceMul, Nat.reducePow, Nat.reduceLT, Int.reduceBEq, Int.reduceBNe, Int.reduceAdd, Int.reduceSub, Int.reduceMul, Int.reduceGT, Int.reduceGE, decS, Int.reduceNe, Int.reduceEq, AV.ren]
theorem first_ok (a : App) : PCall Try.prog 21 [APP a] (.sl false 8 [ASK ⟨0, 0, a.mem, a.cores, 1, -1, -1, 0⟩]) := by
  unfold PCall
  refine acall_of is21 (by simp) ?_
  unfold cc21
  have r := set36 ⟨0, 0, a.mem, a.cores, 1, -1, -1, 0⟩ (by simp)
  simp only at r
  simp -implicitDefEqProofs (maxSteps := 500000) (disch := first | decide | omega) only [↓preS, ↓reduceIte, allS, Nat.reduceBEq, Nat.reduceAdd, Nat.reduceEqDiff, reduceIte, Int.reduceToNat, Int.reduceLE, Int.reduceLT, Nat.reduceLeDiff, Nat.reduceMul, Nat.reducePow, Nat.reduceLT, Int.reduceBEq, Int.reduceBNe, Int.reduceAdd, Int.reduceSub, Int.reduceMul, Int.reduceGT, Int.reduceGE, decS, Int.reduceNe, Int.reduceEq, appS, fillOk, fillAV, List.append_nil]
  refine acK_of (FCall.of (lent := false) (r) (.refl rfl) rfl (by simp)) ?_
  simp -implicitDefEqProofs (maxSteps := 500000) (disch := first | decide | omega) only [↓preS, ↓reduceIte, allS, Nat.reduceBEq, Nat.reduceAdd, Nat.reduceEqDiff, reduceIte, Int.reduceToNat, Int.reduceLE, Int.reduceLT, Nat.reduceLeDiff, Nat.reduceMul, Nat.reducePow, Nat.reduceLT, Int.reduceBEq, Int.reduceBNe, Int.reduceAdd, Int.reduceSub, Int.reduceMul, Int.reduceGT, Int.reduceGE, decS, Int.reduceNe, Int.reduceEq]
end Go.Proofs.Ytceifhcjbmodaaa
