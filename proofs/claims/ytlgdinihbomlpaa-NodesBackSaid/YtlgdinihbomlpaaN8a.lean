/- What functions of the program compute. No condition. -/
import Derived.Test.YtlgdinihbomlpaaN7
set_option linter.unusedSimpArgs false
set_option linter.unusedVariables false
namespace Go.Proofs.Ytlgdinihbomlpaa
open Go Go.Ab

set_option maxRecDepth 20000 in
set_option maxHeartbeats 8000000 in
theorem back2 (n later : Int) (w1 : 0 ≤ n ∧ n < 1000) (m : Node) (ok : OkN m) (hb : m.beat = 0) : aw Try.prog cc6T41 (retQ [6] fun y x => y = AV.bool true) ⟨[(2, AV.int IntKind.i64 later), (3, AV.ref 0 0 0), (7, AV.ref 1 0 0)],
      [AO.box (nodeC m), AO.box [AV.sl false 1 [AV.str []], AV.sl false 3 [QUE q0], AV.nils, AV.nils, AV.nils, AV.nils, AV.nils, AV.int IntKind.i64 n, AV.int IntKind.i64 0, AV.int IntKind.i64 0]]⟩ := by
  unfold cc6T41
  simp -implicitDefEqProofs (maxSteps := 500000) (disch := first | decide | omega) only [↓preS, ↓reduceIte, allS, Nat.reduceBEq, Nat.reduceAdd, Nat.reduceEqDiff, reduceIte, Int.reduceToNat, Int.reduceLE, Int.reduceLT, Nat.reduceLeDiff, Nat.reduceMul, Nat.reducePow, Nat.reduceLT, Int.reduceBEq, Int.reduceBNe, Int.reduceAdd, Int.reduceSub, Int.reduceMul, Int.reduceGT, Int.reduceGE, decS, Int.reduceNe, Int.reduceEq, nodeS, List.append_nil]
  refine acK_of (FCall.of (lent := false) (reg_nil false [q0] qC0 n m ok) (.refl rfl) rfl (by simp)) ?_
  generalize hx : newN n m = x
  have x1 : x.id = m.id := by subst hx; rfl
  have x2 : x.up = true := by subst hx; rfl
  have x3 : x.beat = 0 := by subst hx; rfl
  have x4 : x.mem = m.mem := by subst hx; rfl
  have x5 : x.cores = m.cores := by subst hx; rfl
  have xm : { m with up := true, seen := n } = x := by
    subst hx; unfold newN; rw [hb]
  clear hx
  obtain ⟨i0, i9, l0, r0, r9, m0, m9, c0, c9⟩ := ok
  unfold stC
  simp -implicitDefEqProofs (maxSteps := 500000) (disch := first | decide | omega) only [↓preS, ↓reduceIte, allS, Nat.reduceBEq, Nat.reduceAdd, Nat.reduceEqDiff, reduceIte, Int.reduceToNat, Int.reduceLE, Int.reduceLT, Nat.reduceLeDiff, Nat.reduceMul, Nat.reducePow, Nat.reduceLT, Int.reduceBEq, Int.reduceBNe, Int.reduceAdd, Int.reduceSub, Int.reduceMul, Int.reduceGT, Int.reduceGE, decS, Int.reduceNe, Int.reduceEq, nodeS, List.append_nil]
  refine acK_of (FCall.of (lent := false) (find_ok false false [q0] [x] n m.id (by simp) 0 (by simp) (idx_one x1)) (.refl rfl) rfl (by simp)) ?_
  simp only [List.getElem_cons_zero]
  simp -implicitDefEqProofs (maxSteps := 500000) (disch := first | decide | omega) only [↓preS, ↓reduceIte, allS, Nat.reduceBEq, Nat.reduceAdd, Nat.reduceEqDiff, reduceIte, Int.reduceToNat, Int.reduceLE, Int.reduceLT, Nat.reduceLeDiff, Nat.reduceMul, Nat.reducePow, Nat.reduceLT, Int.reduceBEq, Int.reduceBNe, Int.reduceAdd, Int.reduceSub, Int.reduceMul, Int.reduceGT, Int.reduceGE, decS, Int.reduceNe, Int.reduceEq, nodeS, List.append_nil]
  have hne : x.id ≠ (m.id + 1).tmod 1000 := by
    rw [x1, Int.tmod_eq_emod_of_nonneg (by omega)]
    omega
  refine acK_of (FCall.of (lent := false) (find_no false false [q0] [x] n ((m.id + 1).tmod 1000) (by simp) (idx_none1 hne)) (.refl rfl) rfl (by simp)) ?_
  simp -implicitDefEqProofs (maxSteps := 500000) (disch := first | decide | omega) only [↓preS, ↓reduceIte, allS, Nat.reduceBEq, Nat.reduceAdd, Nat.reduceEqDiff, reduceIte, Int.reduceToNat, Int.reduceLE, Int.reduceLT, Nat.reduceLeDiff, Nat.reduceMul, Nat.reducePow, Nat.reduceLT, Int.reduceBEq, Int.reduceBNe, Int.reduceAdd, Int.reduceSub, Int.reduceMul, Int.reduceGT, Int.reduceGE, decS, Int.reduceNe, Int.reduceEq, nodeS, List.append_nil]
  have w2 := win_rng later 9 (by omega)
  have c9 := within_ok later 9 (by omega) (by omega)
  generalize win later 9 = d at w2 c9
  have r := beat_ok false false [q0] qC0 [x] (by simp) (by simp) (n + d) m.id 1 0 (by simp) (idx_one x1) (by simp [x3]) (by omega)
  simp only [List.getElem_cons_zero, List.set_cons_zero] at r
  have e : beatF (n + d) 1 x = ({ x with seen := n + d, beat := 1 }, 0) := by
    unfold beatF
    rw [if_neg (by simp [x2]), if_neg (by omega), if_neg (by omega)]
  rw [e] at r
  have xb : { x with beat := 1, seen := n + d } = ({ x with seen := n + d, beat := 1 } : Node) := rfl
  generalize hy : ({ x with seen := n + d, beat := 1 } : Node) = y at r xb
  have y1 : y.id = m.id := by subst hy; exact x1
  have fy := find_ok false false [q0] [y] (n + d) m.id (by simp) 0 (by simp) (idx_one y1)
  simp only [List.getElem_cons_zero] at fy
  have fr := free_ok false false [q0] [x] (n + d) x.id (by simp) 0 (by simp) (idx_one rfl) x2 (by simp [x4, m0]) (by simp [x4]; omega) (by simp [x5, c0]) (by simp [x5]; omega)
  simp only [List.getElem_cons_zero] at fr
  refine ⟨?_, ?_⟩ <;> (
    refine acK_of (FCall.of (lent := false) (c9) (.refl rfl) rfl (by simp)) ?_
    simp -implicitDefEqProofs (maxSteps := 500000) (disch := first | decide | omega) only [↓preS, ↓reduceIte, allS, Nat.reduceBEq, Nat.reduceAdd, Nat.reduceEqDiff, reduceIte, Int.reduceToNat, Int.reduceLE, Int.reduceLT, Nat.reduceLeDiff, Nat.reduceMul, Nat.reducePow, Nat.reduceLT, Int.reduceBEq, Int.reduceBNe, Int.reduceAdd, Int.reduceSub, Int.reduceMul, Int.reduceGT, Int.reduceGE, decS, Int.reduceNe, Int.reduceEq, nodeS, List.append_nil]
    refine acK_of (FCall.of (lent := false) (r) (.refl rfl) rfl (by simp)) ?_
    unfold stC
    simp -implicitDefEqProofs (maxSteps := 500000) (disch := first | decide | omega) only [↓preS, ↓reduceIte, allS, Nat.reduceBEq, Nat.reduceAdd, Nat.reduceEqDiff, reduceIte, Int.reduceToNat, Int.reduceLE, Int.reduceLT, Nat.reduceLeDiff, Nat.reduceMul, Nat.reducePow, Nat.reduceLT, Int.reduceBEq, Int.reduceBNe, Int.reduceAdd, Int.reduceSub, Int.reduceMul, Int.reduceGT, Int.reduceGE, decS, Int.reduceNe, Int.reduceEq, nodeS, nodeT, nodeD, List.append_nil]
    refine acK_of (FCall.of (lent := false) (fy) (.refl rfl) rfl (by simp)) ?_
    simp -implicitDefEqProofs (maxSteps := 500000) (disch := first | decide | omega) only [↓preS, ↓reduceIte, allS, Nat.reduceBEq, Nat.reduceAdd, Nat.reduceEqDiff, reduceIte, Int.reduceToNat, Int.reduceLE, Int.reduceLT, Nat.reduceLeDiff, Nat.reduceMul, Nat.reducePow, Nat.reduceLT, Int.reduceBEq, Int.reduceBNe, Int.reduceAdd, Int.reduceSub, Int.reduceMul, Int.reduceGT, Int.reduceGE, decS, Int.reduceNe, Int.reduceEq, nodeS, nodeT, nodeD, List.append_nil, xm, seq_node, beq_self_eq_true]
    refine ⟨?_, ?_⟩ <;> (
      refine acK_of (FCall.of (lent := false) (fr) (.refl rfl) rfl (by simp)) ?_
      unfold VEC
      simp -implicitDefEqProofs (maxSteps := 500000) (disch := first | decide | omega) only [↓preS, ↓reduceIte, allS, Nat.reduceBEq, Nat.reduceAdd, Nat.reduceEqDiff, reduceIte, Int.reduceToNat, Int.reduceLE, Int.reduceLT, Nat.reduceLeDiff, Nat.reduceMul, Nat.reducePow, Nat.reduceLT, Int.reduceBEq, Int.reduceBNe, Int.reduceAdd, Int.reduceSub, Int.reduceMul, Int.reduceGT, Int.reduceGE, decS, Int.reduceNe, Int.reduceEq, nodeS, nodeT, nodeD, List.append_nil, seq_vec, seq_node, hy, beq_self_eq_true]))
end Go.Proofs.Ytlgdinihbomlpaa
