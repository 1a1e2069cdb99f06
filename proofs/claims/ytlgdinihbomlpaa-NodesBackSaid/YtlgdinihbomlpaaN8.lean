/- What functions of the program compute. No condition. -/
import Derived.Test.YtlgdinihbomlpaaN8a
set_option linter.unusedSimpArgs false
set_option linter.unusedVariables false
namespace Go.Proofs.Ytlgdinihbomlpaa
open Go Go.Ab

set_option maxRecDepth 20000 in
set_option maxHeartbeats 8000000 in
theorem back_law (a : Node) (now later : Int) : ACall Try.prog 6 [NODE a, .int .i64 now, .int .i64 later] [] fun y _ => y = .bool true := by
  refine acall_of is6 (by simp) ?_
  unfold cc6
  simp -implicitDefEqProofs (maxSteps := 500000) (disch := first | decide | omega) only [↓preS, ↓reduceIte, allS, Nat.reduceBEq, Nat.reduceAdd, Nat.reduceEqDiff, reduceIte, Int.reduceToNat, Int.reduceLE, Int.reduceLT, Nat.reduceLeDiff, Nat.reduceMul, Nat.reducePow, Nat.reduceLT, Int.reduceBEq, Int.reduceBNe, Int.reduceAdd, Int.reduceSub, Int.reduceMul, Int.reduceGT, Int.reduceGE, decS, Int.reduceNe, Int.reduceEq, nodeS]
  refine acK_of (FCall.of (lent := false) (known_ok) (.refl rfl) rfl (by simp)) ?_
  simp -implicitDefEqProofs (maxSteps := 500000) (disch := first | decide | omega) only [↓preS, ↓reduceIte, allS, Nat.reduceBEq, Nat.reduceAdd, Nat.reduceEqDiff, reduceIte, Int.reduceToNat, Int.reduceLE, Int.reduceLT, Nat.reduceLeDiff, Nat.reduceMul, Nat.reducePow, Nat.reduceLT, Int.reduceBEq, Int.reduceBNe, Int.reduceAdd, Int.reduceSub, Int.reduceMul, Int.reduceGT, Int.reduceGE, decS, Int.reduceNe, Int.reduceEq, nodeS]
  refine acK_of (FCall.of (lent := false) (new_ok) (.refl rfl) rfl (by simp)) ?_
  unfold stC
  simp -implicitDefEqProofs (maxSteps := 500000) (disch := first | decide | omega) only [↓preS, ↓reduceIte, allS, Nat.reduceBEq, Nat.reduceAdd, Nat.reduceEqDiff, reduceIte, Int.reduceToNat, Int.reduceLE, Int.reduceLT, Nat.reduceLeDiff, Nat.reduceMul, Nat.reducePow, Nat.reduceLT, Int.reduceBEq, Int.reduceBNe, Int.reduceAdd, Int.reduceSub, Int.reduceMul, Int.reduceGT, Int.reduceGE, decS, Int.reduceNe, Int.reduceEq, nodeS]
  refine acK_of (FCall.of (lent := false) (within_ok now 1000 (by omega) (by omega)) (.refl rfl) rfl (by simp)) ?_
  have w1 := win_rng now 1000 (by omega)
  generalize win now 1000 = n at w1
  simp -implicitDefEqProofs (maxSteps := 500000) (disch := first | decide | omega) only [↓preS, ↓reduceIte, allS, Nat.reduceBEq, Nat.reduceAdd, Nat.reduceEqDiff, reduceIte, Int.reduceToNat, Int.reduceLE, Int.reduceLT, Nat.reduceLeDiff, Nat.reduceMul, Nat.reducePow, Nat.reduceLT, Int.reduceBEq, Int.reduceBNe, Int.reduceAdd, Int.reduceSub, Int.reduceMul, Int.reduceGT, Int.reduceGE, decS, Int.reduceNe, Int.reduceEq, nodeS, nodeT, nodeD, List.append_nil, fillOk, fillAV]
  unfold cc6T24
  have w2 := win_rng a.id 1000 (by omega)
  have w3 := win_rng a.rack 100 (by omega)
  have w4 := win_rng a.mem 1073741825 (by omega)
  have w5 := win_rng a.cores 1073741825 (by omega)
  have c2 := within_ok a.id 1000 (by omega) (by omega)
  have c3 := within_ok a.rack 100 (by omega) (by omega)
  have c4 := within_ok a.mem 1073741825 (by omega) (by omega)
  have c5 := within_ok a.cores 1073741825 (by omega) (by omega)
  generalize win a.id 1000 = id at w2 c2
  generalize win a.rack 100 = rack at w3 c3
  generalize win a.mem 1073741825 = mem at w4 c4
  generalize win a.cores 1073741825 = cores at w5 c5
  refine aw_cut (fun s' => s' = ⟨[(2, .int .i64 later), (3, .ref 0 0 0), (7, .ref 1 0 0)], [.box (nodeC ⟨id, 0, rack, mem, cores, 0, 0, false⟩), .box [.sl false 1 [.str []], .sl false 3 ([q0].map QUE), .nils, .nils, .nils, .nils, .nils, .int .i64 n, .int .i64 0, .int .i64 0]]⟩) ?_ ?_
  · simp -implicitDefEqProofs (maxSteps := 500000) (disch := first | decide | omega) only [↓preS, ↓reduceIte, allS, Nat.reduceBEq, Nat.reduceAdd, Nat.reduceEqDiff, reduceIte, Int.reduceToNat, Int.reduceLE, Int.reduceLT, Nat.reduceLeDiff, Nat.reduceMul, Nat.reducePow, Nat.reduceLT, Int.reduceBEq, Int.reduceBNe, Int.reduceAdd, Int.reduceSub, Int.reduceMul, Int.reduceGT, Int.reduceGE, decS, Int.reduceNe, Int.reduceEq, nodeS, List.append_nil]
    repeat' first
      | (refine acK_of (FCall.of (lent := false) (c2) (.refl rfl) rfl (by simp)) ?_; simp -implicitDefEqProofs (maxSteps := 500000) (disch := first | decide | omega) only [↓preS, ↓reduceIte, allS, Nat.reduceBEq, Nat.reduceAdd, Nat.reduceEqDiff, reduceIte, Int.reduceToNat, Int.reduceLE, Int.reduceLT, Nat.reduceLeDiff, Nat.reduceMul, Nat.reducePow, Nat.reduceLT, Int.reduceBEq, Int.reduceBNe, Int.reduceAdd, Int.reduceSub, Int.reduceMul, Int.reduceGT, Int.reduceGE, decS, Int.reduceNe, Int.reduceEq, nodeS, nodeT, nodeD, List.append_nil, fillOk, fillAV])
      | (refine acK_of (FCall.of (lent := false) (c3) (.refl rfl) rfl (by simp)) ?_; simp -implicitDefEqProofs (maxSteps := 500000) (disch := first | decide | omega) only [↓preS, ↓reduceIte, allS, Nat.reduceBEq, Nat.reduceAdd, Nat.reduceEqDiff, reduceIte, Int.reduceToNat, Int.reduceLE, Int.reduceLT, Nat.reduceLeDiff, Nat.reduceMul, Nat.reducePow, Nat.reduceLT, Int.reduceBEq, Int.reduceBNe, Int.reduceAdd, Int.reduceSub, Int.reduceMul, Int.reduceGT, Int.reduceGE, decS, Int.reduceNe, Int.reduceEq, nodeS, nodeT, nodeD, List.append_nil, fillOk, fillAV])
      | (refine acK_of (FCall.of (lent := false) (c4) (.refl rfl) rfl (by simp)) ?_; simp -implicitDefEqProofs (maxSteps := 500000) (disch := first | decide | omega) only [↓preS, ↓reduceIte, allS, Nat.reduceBEq, Nat.reduceAdd, Nat.reduceEqDiff, reduceIte, Int.reduceToNat, Int.reduceLE, Int.reduceLT, Nat.reduceLeDiff, Nat.reduceMul, Nat.reducePow, Nat.reduceLT, Int.reduceBEq, Int.reduceBNe, Int.reduceAdd, Int.reduceSub, Int.reduceMul, Int.reduceGT, Int.reduceGE, decS, Int.reduceNe, Int.reduceEq, nodeS, nodeT, nodeD, List.append_nil, fillOk, fillAV])
      | (refine acK_of (FCall.of (lent := false) (c5) (.refl rfl) rfl (by simp)) ?_; simp -implicitDefEqProofs (maxSteps := 500000) (disch := first | decide | omega) only [↓preS, ↓reduceIte, allS, Nat.reduceBEq, Nat.reduceAdd, Nat.reduceEqDiff, reduceIte, Int.reduceToNat, Int.reduceLE, Int.reduceLT, Nat.reduceLeDiff, Nat.reduceMul, Nat.reducePow, Nat.reduceLT, Int.reduceBEq, Int.reduceBNe, Int.reduceAdd, Int.reduceSub, Int.reduceMul, Int.reduceGT, Int.reduceGE, decS, Int.reduceNe, Int.reduceEq, nodeS, nodeT, nodeD, List.append_nil, fillOk, fillAV])
      | rfl
      | (refine ⟨?_, ?_⟩)
  rintro s' rfl
  clear c2 c3 c4 c5
  have hb : (⟨id, 0, rack, mem, cores, 0, 0, false⟩ : Node).beat = 0 := rfl
  generalize hm : (⟨id, 0, rack, mem, cores, 0, 0, false⟩ : Node) = m at hb
  have hi9 : m.id < 1000 := by subst hm; exact w2.2
  have ok : OkN m := by subst hm; exact ⟨by simp only; omega, by simp only; omega, rfl, by simp only; omega, by simp only; omega, by simp only; omega, by simp only; omega, by simp only; omega, by simp only; omega⟩
  simp -implicitDefEqProofs (maxSteps := 500000) (disch := first | decide | omega) only [↓preS, ↓reduceIte, allS, Nat.reduceBEq, Nat.reduceAdd, Nat.reduceEqDiff, reduceIte, Int.reduceToNat, Int.reduceLE, Int.reduceLT, Nat.reduceLeDiff, Nat.reduceMul, Nat.reducePow, Nat.reduceLT, Int.reduceBEq, Int.reduceBNe, Int.reduceAdd, Int.reduceSub, Int.reduceMul, Int.reduceGT, Int.reduceGE, decS, Int.reduceNe, Int.reduceEq, nodeS, List.append_nil]
  exact back2 n later w1 m ok hb
end Go.Proofs.Ytlgdinihbomlpaa
