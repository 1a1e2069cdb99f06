/- What functions of the program compute. No condition. -/
import Derived.Test.YtgpipheibnlkhaaWS
set_option linter.unusedSimpArgs false
set_option linter.unusedVariables false
namespace Go.Proofs.Ytgpipheibnlkhaa
open Go Go.Ab

def sameB (a b : Inp) : Bool :=
  if a.kind = 1 then a.text == b.text
  else if a.kind = 2 then a.nId == b.nId && (a.nLab == b.nLab && (a.nRack == b.nRack && (a.nMem == b.nMem && a.nCor == b.nCor)))
  else if a.kind = 3 then a.id == b.id && (a.beat == b.beat && a.ids == b.ids)
  else if a.kind = 4 then a.aId == b.aId && (a.aQ == b.aQ && (a.aUser == b.aUser && (a.aPrio == b.aPrio && (a.aMem == b.aMem && a.aCor == b.aCor))))
  else if a.kind = 5 then a.id == b.id && (a.beat == b.beat && (eqAsks a.asks b.asks && a.ids == b.ids))
  else if a.kind = 6 ∨ a.kind = 7 ∨ a.kind = 10 then a.id == b.id
  else if a.kind = 8 then a.n == b.n
  else if a.kind = 9 then a.pId == b.pId && (a.pLab == b.pLab && (a.pFrom == b.pFrom && (a.pUntil == b.pUntil && (a.pMem == b.pMem && (a.pCor == b.pCor && a.n == b.n)))))
  else true
def sameI (a b : Inp) : Bool := a.kind == b.kind && sameB a b

set_option maxRecDepth 20000 in
set_option maxHeartbeats 4000000 in
theorem same_1 (a b : Inp) (k : a.kind = 1) (hk : b.kind = 1) : ACall Try.prog 18 [INP a, INP b] [] fun r _ => r = .bool (sameB a b) := by
  refine acall_of is18 (by simp) ?_
  unfold cc18
  have e : sameB a b = (a.text == b.text) := by
    unfold sameB; rw [if_pos (by omega)]
  rw [e]
  simp -implicitDefEqProofs (maxSteps := 500000) (disch := first | decide | omega) only [↓preS, ↓reduceIte, allS, pickK, nilckK, binK, beqK, cvsK, slK, bndK, slsK, fadK, fldK, iaaK, ixsK, ixaK, extK, lensK, isiK, tasK, st0K, ldpK, lenlK, caplK, mmaK, bldK, ldK, bxK, stoK, stK, blsK, mksK, appK, apzK, apsK, calvK, calvD, cvbK, csbK, sk, notSl, killOf, frzI, AV.ids, AV.ids1, AV.ids2, initR, Nat.reduceBEq, Nat.reduceAdd, Nat.reduceEqDiff, panK, retQ, retQP, resAV, reduceIte, Int.reduceToNat, Int.reduceLE, Int.reduceLT, Nat.reduceLeDiff, rdS, AV.fz, AV.fz1, AV.fz2, Nat.reduceMul, Nat.reducePow, Nat.reduceLT, AV.el, fillEl, Int.reduceBEq, Int.reduceBNe, Int.reduceAdd, Int.reduceSub, Int.reduceMul, Int.reduceGT, Int.reduceGE, decS, Int.reduceNe, Int.reduceEq, inpS, k, hk]

set_option maxRecDepth 20000 in
set_option maxHeartbeats 4000000 in
theorem same_2 (a b : Inp) (k : a.kind = 2) (hk : b.kind = 2) : ACall Try.prog 18 [INP a, INP b] [] fun r _ => r = .bool (sameB a b) := by
  refine acall_of is18 (by simp) ?_
  unfold cc18
  have e : sameB a b = (a.nId == b.nId && (a.nLab == b.nLab && (a.nRack == b.nRack && (a.nMem == b.nMem && a.nCor == b.nCor)))) := by
    unfold sameB; rw [if_neg (by omega)]; rw [if_pos (by omega)]
  rw [e]
  simp -implicitDefEqProofs (maxSteps := 500000) (disch := first | decide | omega) only [↓preS, ↓reduceIte, allS, pickK, nilckK, binK, beqK, cvsK, slK, bndK, slsK, fadK, fldK, iaaK, ixsK, ixaK, extK, lensK, isiK, tasK, st0K, ldpK, lenlK, caplK, mmaK, bldK, ldK, bxK, stoK, stK, blsK, mksK, appK, apzK, apsK, calvK, calvD, cvbK, csbK, sk, notSl, killOf, frzI, AV.ids, AV.ids1, AV.ids2, initR, Nat.reduceBEq, Nat.reduceAdd, Nat.reduceEqDiff, panK, retQ, retQP, resAV, reduceIte, Int.reduceToNat, Int.reduceLE, Int.reduceLT, Nat.reduceLeDiff, rdS, AV.fz, AV.fz1, AV.fz2, Nat.reduceMul, Nat.reducePow, Nat.reduceLT, AV.el, fillEl, Int.reduceBEq, Int.reduceBNe, Int.reduceAdd, Int.reduceSub, Int.reduceMul, Int.reduceGT, Int.reduceGE, decS, Int.reduceNe, Int.reduceEq, inpS, k, hk]
  (try and_intros) <;> repeat' (refine gK_split (fun hb => ?_) (fun hb => ?_) <;> simp -implicitDefEqProofs (maxSteps := 500000) (disch := first | decide | omega) only [↓preS, ↓reduceIte, allS, pickK, nilckK, binK, beqK, cvsK, slK, bndK, slsK, fadK, fldK, iaaK, ixsK, ixaK, extK, lensK, isiK, tasK, st0K, ldpK, lenlK, caplK, mmaK, bldK, ldK, bxK, stoK, stK, blsK, mksK, appK, apzK, apsK, calvK, calvD, cvbK, csbK, sk, notSl, killOf, frzI, AV.ids, AV.ids1, AV.ids2, initR, Nat.reduceBEq, Nat.reduceAdd, Nat.reduceEqDiff, panK, retQ, retQP, resAV, reduceIte, Int.reduceToNat, Int.reduceLE, Int.reduceLT, Nat.reduceLeDiff, rdS, AV.fz, AV.fz1, AV.fz2, Nat.reduceMul, Nat.reducePow, Nat.reduceLT, AV.el, fillEl, Int.reduceBEq, Int.reduceBNe, Int.reduceAdd, Int.reduceSub, Int.reduceMul, Int.reduceGT, Int.reduceGE, decS, Int.reduceNe, Int.reduceEq, hb, inpS, seqK, scEqs, scEq, Option.some.injEq, exists_eq_left']) <;> simp_all

set_option maxRecDepth 20000 in
set_option maxHeartbeats 4000000 in
theorem same_3 (a b : Inp) (k : a.kind = 3) (hk : b.kind = 3) (hl : a.ids.length < 2 ^ 63) : ACall Try.prog 18 [INP a, INP b] [] fun r _ => r = .bool (sameB a b) := by
  refine acall_of is18 (by simp) ?_
  unfold cc18
  have e : sameB a b = (a.id == b.id && (a.beat == b.beat && a.ids == b.ids)) := by
    unfold sameB; rw [if_neg (by omega)]; rw [if_neg (by omega)]; rw [if_pos (by omega)]
  rw [e]
  simp -implicitDefEqProofs (maxSteps := 500000) (disch := first | decide | omega) only [↓preS, ↓reduceIte, allS, pickK, nilckK, binK, beqK, cvsK, slK, bndK, slsK, fadK, fldK, iaaK, ixsK, ixaK, extK, lensK, isiK, tasK, st0K, ldpK, lenlK, caplK, mmaK, bldK, ldK, bxK, stoK, stK, blsK, mksK, appK, apzK, apsK, calvK, calvD, cvbK, csbK, sk, notSl, killOf, frzI, AV.ids, AV.ids1, AV.ids2, initR, Nat.reduceBEq, Nat.reduceAdd, Nat.reduceEqDiff, panK, retQ, retQP, resAV, reduceIte, Int.reduceToNat, Int.reduceLE, Int.reduceLT, Nat.reduceLeDiff, rdS, AV.fz, AV.fz1, AV.fz2, Nat.reduceMul, Nat.reducePow, Nat.reduceLT, AV.el, fillEl, Int.reduceBEq, Int.reduceBNe, Int.reduceAdd, Int.reduceSub, Int.reduceMul, Int.reduceGT, Int.reduceGE, decS, Int.reduceNe, Int.reduceEq, inpS, k, hk]
  refine gK_split (fun h1 => ?_) (fun h1 => ?_)
  · simp -implicitDefEqProofs (maxSteps := 500000) (disch := first | decide | omega) only [↓preS, ↓reduceIte, allS, pickK, nilckK, binK, beqK, cvsK, slK, bndK, slsK, fadK, fldK, iaaK, ixsK, ixaK, extK, lensK, isiK, tasK, st0K, ldpK, lenlK, caplK, mmaK, bldK, ldK, bxK, stoK, stK, blsK, mksK, appK, apzK, apsK, calvK, calvD, cvbK, csbK, sk, notSl, killOf, frzI, AV.ids, AV.ids1, AV.ids2, initR, Nat.reduceBEq, Nat.reduceAdd, Nat.reduceEqDiff, panK, retQ, retQP, resAV, reduceIte, Int.reduceToNat, Int.reduceLE, Int.reduceLT, Nat.reduceLeDiff, rdS, AV.fz, AV.fz1, AV.fz2, Nat.reduceMul, Nat.reducePow, Nat.reduceLT, AV.el, fillEl, Int.reduceBEq, Int.reduceBNe, Int.reduceAdd, Int.reduceSub, Int.reduceMul, Int.reduceGT, Int.reduceGE, decS, Int.reduceNe, Int.reduceEq, inpS, h1]
    refine gK_split (fun h2 => ?_) (fun h2 => ?_)
    · simp -implicitDefEqProofs (maxSteps := 500000) (disch := first | decide | omega) only [↓preS, ↓reduceIte, allS, pickK, nilckK, binK, beqK, cvsK, slK, bndK, slsK, fadK, fldK, iaaK, ixsK, ixaK, extK, lensK, isiK, tasK, st0K, ldpK, lenlK, caplK, mmaK, bldK, ldK, bxK, stoK, stK, blsK, mksK, appK, apzK, apsK, calvK, calvD, cvbK, csbK, sk, notSl, killOf, frzI, AV.ids, AV.ids1, AV.ids2, initR, Nat.reduceBEq, Nat.reduceAdd, Nat.reduceEqDiff, panK, retQ, retQP, resAV, reduceIte, Int.reduceToNat, Int.reduceLE, Int.reduceLT, Nat.reduceLeDiff, rdS, AV.fz, AV.fz1, AV.fz2, Nat.reduceMul, Nat.reducePow, Nat.reduceLT, AV.el, fillEl, Int.reduceBEq, Int.reduceBNe, Int.reduceAdd, Int.reduceSub, Int.reduceMul, Int.reduceGT, Int.reduceGE, decS, Int.reduceNe, Int.reduceEq, inpS, h2]
      refine acK_of (FCall.of (lent := false) (eqints_ok false false a.ids b.ids hl) (.refl rfl) rfl (by simp)) ?_
      simp -implicitDefEqProofs (maxSteps := 500000) (disch := first | decide | omega) only [↓preS, ↓reduceIte, allS, pickK, nilckK, binK, beqK, cvsK, slK, bndK, slsK, fadK, fldK, iaaK, ixsK, ixaK, extK, lensK, isiK, tasK, st0K, ldpK, lenlK, caplK, mmaK, bldK, ldK, bxK, stoK, stK, blsK, mksK, appK, apzK, apsK, calvK, calvD, cvbK, csbK, sk, notSl, killOf, frzI, AV.ids, AV.ids1, AV.ids2, initR, Nat.reduceBEq, Nat.reduceAdd, Nat.reduceEqDiff, panK, retQ, retQP, resAV, reduceIte, Int.reduceToNat, Int.reduceLE, Int.reduceLT, Nat.reduceLeDiff, rdS, AV.fz, AV.fz1, AV.fz2, Nat.reduceMul, Nat.reducePow, Nat.reduceLT, AV.el, fillEl, Int.reduceBEq, Int.reduceBNe, Int.reduceAdd, Int.reduceSub, Int.reduceMul, Int.reduceGT, Int.reduceGE, decS, Int.reduceNe, Int.reduceEq, inpS]
    · simp -implicitDefEqProofs (maxSteps := 500000) (disch := first | decide | omega) only [↓preS, ↓reduceIte, allS, pickK, nilckK, binK, beqK, cvsK, slK, bndK, slsK, fadK, fldK, iaaK, ixsK, ixaK, extK, lensK, isiK, tasK, st0K, ldpK, lenlK, caplK, mmaK, bldK, ldK, bxK, stoK, stK, blsK, mksK, appK, apzK, apsK, calvK, calvD, cvbK, csbK, sk, notSl, killOf, frzI, AV.ids, AV.ids1, AV.ids2, initR, Nat.reduceBEq, Nat.reduceAdd, Nat.reduceEqDiff, panK, retQ, retQP, resAV, reduceIte, Int.reduceToNat, Int.reduceLE, Int.reduceLT, Nat.reduceLeDiff, rdS, AV.fz, AV.fz1, AV.fz2, Nat.reduceMul, Nat.reducePow, Nat.reduceLT, AV.el, fillEl, Int.reduceBEq, Int.reduceBNe, Int.reduceAdd, Int.reduceSub, Int.reduceMul, Int.reduceGT, Int.reduceGE, decS, Int.reduceNe, Int.reduceEq, inpS, h2, Bool.false_and, Bool.and_false]
  · simp -implicitDefEqProofs (maxSteps := 500000) (disch := first | decide | omega) only [↓preS, ↓reduceIte, allS, pickK, nilckK, binK, beqK, cvsK, slK, bndK, slsK, fadK, fldK, iaaK, ixsK, ixaK, extK, lensK, isiK, tasK, st0K, ldpK, lenlK, caplK, mmaK, bldK, ldK, bxK, stoK, stK, blsK, mksK, appK, apzK, apsK, calvK, calvD, cvbK, csbK, sk, notSl, killOf, frzI, AV.ids, AV.ids1, AV.ids2, initR, Nat.reduceBEq, Nat.reduceAdd, Nat.reduceEqDiff, panK, retQ, retQP, resAV, reduceIte, Int.reduceToNat, Int.reduceLE, Int.reduceLT, Nat.reduceLeDiff, rdS, AV.fz, AV.fz1, AV.fz2, Nat.reduceMul, Nat.reducePow, Nat.reduceLT, AV.el, fillEl, Int.reduceBEq, Int.reduceBNe, Int.reduceAdd, Int.reduceSub, Int.reduceMul, Int.reduceGT, Int.reduceGE, decS, Int.reduceNe, Int.reduceEq, inpS, h1, Bool.false_and, Bool.and_false]

set_option maxRecDepth 20000 in
set_option maxHeartbeats 4000000 in
theorem same_4 (a b : Inp) (k : a.kind = 4) (hk : b.kind = 4) : ACall Try.prog 18 [INP a, INP b] [] fun r _ => r = .bool (sameB a b) := by
  refine acall_of is18 (by simp) ?_
  unfold cc18
  have e : sameB a b = (a.aId == b.aId && (a.aQ == b.aQ && (a.aUser == b.aUser && (a.aPrio == b.aPrio && (a.aMem == b.aMem && a.aCor == b.aCor))))) := by
    unfold sameB; rw [if_neg (by omega)]; rw [if_neg (by omega)]; rw [if_neg (by omega)]; rw [if_pos (by omega)]
  rw [e]
  simp -implicitDefEqProofs (maxSteps := 500000) (disch := first | decide | omega) only [↓preS, ↓reduceIte, allS, pickK, nilckK, binK, beqK, cvsK, slK, bndK, slsK, fadK, fldK, iaaK, ixsK, ixaK, extK, lensK, isiK, tasK, st0K, ldpK, lenlK, caplK, mmaK, bldK, ldK, bxK, stoK, stK, blsK, mksK, appK, apzK, apsK, calvK, calvD, cvbK, csbK, sk, notSl, killOf, frzI, AV.ids, AV.ids1, AV.ids2, initR, Nat.reduceBEq, Nat.reduceAdd, Nat.reduceEqDiff, panK, retQ, retQP, resAV, reduceIte, Int.reduceToNat, Int.reduceLE, Int.reduceLT, Nat.reduceLeDiff, rdS, AV.fz, AV.fz1, AV.fz2, Nat.reduceMul, Nat.reducePow, Nat.reduceLT, AV.el, fillEl, Int.reduceBEq, Int.reduceBNe, Int.reduceAdd, Int.reduceSub, Int.reduceMul, Int.reduceGT, Int.reduceGE, decS, Int.reduceNe, Int.reduceEq, inpS, k, hk]
  (try and_intros) <;> repeat' (refine gK_split (fun hb => ?_) (fun hb => ?_) <;> simp -implicitDefEqProofs (maxSteps := 500000) (disch := first | decide | omega) only [↓preS, ↓reduceIte, allS, pickK, nilckK, binK, beqK, cvsK, slK, bndK, slsK, fadK, fldK, iaaK, ixsK, ixaK, extK, lensK, isiK, tasK, st0K, ldpK, lenlK, caplK, mmaK, bldK, ldK, bxK, stoK, stK, blsK, mksK, appK, apzK, apsK, calvK, calvD, cvbK, csbK, sk, notSl, killOf, frzI, AV.ids, AV.ids1, AV.ids2, initR, Nat.reduceBEq, Nat.reduceAdd, Nat.reduceEqDiff, panK, retQ, retQP, resAV, reduceIte, Int.reduceToNat, Int.reduceLE, Int.reduceLT, Nat.reduceLeDiff, rdS, AV.fz, AV.fz1, AV.fz2, Nat.reduceMul, Nat.reducePow, Nat.reduceLT, AV.el, fillEl, Int.reduceBEq, Int.reduceBNe, Int.reduceAdd, Int.reduceSub, Int.reduceMul, Int.reduceGT, Int.reduceGE, decS, Int.reduceNe, Int.reduceEq, hb, inpS, seqK, scEqs, scEq, Option.some.injEq, exists_eq_left']) <;> simp_all

set_option maxRecDepth 20000 in
set_option maxHeartbeats 4000000 in
theorem same_5 (a b : Inp) (k : a.kind = 5) (hk : b.kind = 5) (hl : a.ids.length < 2 ^ 63) (hl2 : a.asks.length < 2 ^ 63) : ACall Try.prog 18 [INP a, INP b] [] fun r _ => r = .bool (sameB a b) := by
  refine acall_of is18 (by simp) ?_
  unfold cc18
  have e : sameB a b = (a.id == b.id && (a.beat == b.beat && (eqAsks a.asks b.asks && a.ids == b.ids))) := by
    unfold sameB; rw [if_neg (by omega)]; rw [if_neg (by omega)]; rw [if_neg (by omega)]; rw [if_neg (by omega)]; rw [if_pos (by omega)]
  rw [e]
  simp -implicitDefEqProofs (maxSteps := 500000) (disch := first | decide | omega) only [↓preS, ↓reduceIte, allS, pickK, nilckK, binK, beqK, cvsK, slK, bndK, slsK, fadK, fldK, iaaK, ixsK, ixaK, extK, lensK, isiK, tasK, st0K, ldpK, lenlK, caplK, mmaK, bldK, ldK, bxK, stoK, stK, blsK, mksK, appK, apzK, apsK, calvK, calvD, cvbK, csbK, sk, notSl, killOf, frzI, AV.ids, AV.ids1, AV.ids2, initR, Nat.reduceBEq, Nat.reduceAdd, Nat.reduceEqDiff, panK, retQ, retQP, resAV, reduceIte, Int.reduceToNat, Int.reduceLE, Int.reduceLT, Nat.reduceLeDiff, rdS, AV.fz, AV.fz1, AV.fz2, Nat.reduceMul, Nat.reducePow, Nat.reduceLT, AV.el, fillEl, Int.reduceBEq, Int.reduceBNe, Int.reduceAdd, Int.reduceSub, Int.reduceMul, Int.reduceGT, Int.reduceGE, decS, Int.reduceNe, Int.reduceEq, inpS, k, hk]
  refine gK_split (fun h1 => ?_) (fun h1 => ?_)
  · simp -implicitDefEqProofs (maxSteps := 500000) (disch := first | decide | omega) only [↓preS, ↓reduceIte, allS, pickK, nilckK, binK, beqK, cvsK, slK, bndK, slsK, fadK, fldK, iaaK, ixsK, ixaK, extK, lensK, isiK, tasK, st0K, ldpK, lenlK, caplK, mmaK, bldK, ldK, bxK, stoK, stK, blsK, mksK, appK, apzK, apsK, calvK, calvD, cvbK, csbK, sk, notSl, killOf, frzI, AV.ids, AV.ids1, AV.ids2, initR, Nat.reduceBEq, Nat.reduceAdd, Nat.reduceEqDiff, panK, retQ, retQP, resAV, reduceIte, Int.reduceToNat, Int.reduceLE, Int.reduceLT, Nat.reduceLeDiff, rdS, AV.fz, AV.fz1, AV.fz2, Nat.reduceMul, Nat.reducePow, Nat.reduceLT, AV.el, fillEl, Int.reduceBEq, Int.reduceBNe, Int.reduceAdd, Int.reduceSub, Int.reduceMul, Int.reduceGT, Int.reduceGE, decS, Int.reduceNe, Int.reduceEq, inpS, h1]
    refine gK_split (fun h2 => ?_) (fun h2 => ?_)
    · simp -implicitDefEqProofs (maxSteps := 500000) (disch := first | decide | omega) only [↓preS, ↓reduceIte, allS, pickK, nilckK, binK, beqK, cvsK, slK, bndK, slsK, fadK, fldK, iaaK, ixsK, ixaK, extK, lensK, isiK, tasK, st0K, ldpK, lenlK, caplK, mmaK, bldK, ldK, bxK, stoK, stK, blsK, mksK, appK, apzK, apsK, calvK, calvD, cvbK, csbK, sk, notSl, killOf, frzI, AV.ids, AV.ids1, AV.ids2, initR, Nat.reduceBEq, Nat.reduceAdd, Nat.reduceEqDiff, panK, retQ, retQP, resAV, reduceIte, Int.reduceToNat, Int.reduceLE, Int.reduceLT, Nat.reduceLeDiff, rdS, AV.fz, AV.fz1, AV.fz2, Nat.reduceMul, Nat.reducePow, Nat.reduceLT, AV.el, fillEl, Int.reduceBEq, Int.reduceBNe, Int.reduceAdd, Int.reduceSub, Int.reduceMul, Int.reduceGT, Int.reduceGE, decS, Int.reduceNe, Int.reduceEq, inpS, h2]
      refine acK_of (FCall.of (lent := false) (eqasks_ok false false a.asks b.asks hl2) (.refl rfl) rfl (by simp)) ?_
      simp -implicitDefEqProofs (maxSteps := 500000) (disch := first | decide | omega) only [↓preS, ↓reduceIte, allS, pickK, nilckK, binK, beqK, cvsK, slK, bndK, slsK, fadK, fldK, iaaK, ixsK, ixaK, extK, lensK, isiK, tasK, st0K, ldpK, lenlK, caplK, mmaK, bldK, ldK, bxK, stoK, stK, blsK, mksK, appK, apzK, apsK, calvK, calvD, cvbK, csbK, sk, notSl, killOf, frzI, AV.ids, AV.ids1, AV.ids2, initR, Nat.reduceBEq, Nat.reduceAdd, Nat.reduceEqDiff, panK, retQ, retQP, resAV, reduceIte, Int.reduceToNat, Int.reduceLE, Int.reduceLT, Nat.reduceLeDiff, rdS, AV.fz, AV.fz1, AV.fz2, Nat.reduceMul, Nat.reducePow, Nat.reduceLT, AV.el, fillEl, Int.reduceBEq, Int.reduceBNe, Int.reduceAdd, Int.reduceSub, Int.reduceMul, Int.reduceGT, Int.reduceGE, decS, Int.reduceNe, Int.reduceEq, inpS]
      refine gK_split (fun h3 => ?_) (fun h3 => ?_)
      · simp -implicitDefEqProofs (maxSteps := 500000) (disch := first | decide | omega) only [↓preS, ↓reduceIte, allS, pickK, nilckK, binK, beqK, cvsK, slK, bndK, slsK, fadK, fldK, iaaK, ixsK, ixaK, extK, lensK, isiK, tasK, st0K, ldpK, lenlK, caplK, mmaK, bldK, ldK, bxK, stoK, stK, blsK, mksK, appK, apzK, apsK, calvK, calvD, cvbK, csbK, sk, notSl, killOf, frzI, AV.ids, AV.ids1, AV.ids2, initR, Nat.reduceBEq, Nat.reduceAdd, Nat.reduceEqDiff, panK, retQ, retQP, resAV, reduceIte, Int.reduceToNat, Int.reduceLE, Int.reduceLT, Nat.reduceLeDiff, rdS, AV.fz, AV.fz1, AV.fz2, Nat.reduceMul, Nat.reducePow, Nat.reduceLT, AV.el, fillEl, Int.reduceBEq, Int.reduceBNe, Int.reduceAdd, Int.reduceSub, Int.reduceMul, Int.reduceGT, Int.reduceGE, decS, Int.reduceNe, Int.reduceEq, inpS, h3]
        refine acK_of (FCall.of (lent := false) (eqints_ok false false a.ids b.ids hl) (.refl rfl) rfl (by simp)) ?_
        simp -implicitDefEqProofs (maxSteps := 500000) (disch := first | decide | omega) only [↓preS, ↓reduceIte, allS, pickK, nilckK, binK, beqK, cvsK, slK, bndK, slsK, fadK, fldK, iaaK, ixsK, ixaK, extK, lensK, isiK, tasK, st0K, ldpK, lenlK, caplK, mmaK, bldK, ldK, bxK, stoK, stK, blsK, mksK, appK, apzK, apsK, calvK, calvD, cvbK, csbK, sk, notSl, killOf, frzI, AV.ids, AV.ids1, AV.ids2, initR, Nat.reduceBEq, Nat.reduceAdd, Nat.reduceEqDiff, panK, retQ, retQP, resAV, reduceIte, Int.reduceToNat, Int.reduceLE, Int.reduceLT, Nat.reduceLeDiff, rdS, AV.fz, AV.fz1, AV.fz2, Nat.reduceMul, Nat.reducePow, Nat.reduceLT, AV.el, fillEl, Int.reduceBEq, Int.reduceBNe, Int.reduceAdd, Int.reduceSub, Int.reduceMul, Int.reduceGT, Int.reduceGE, decS, Int.reduceNe, Int.reduceEq, inpS]
      · simp -implicitDefEqProofs (maxSteps := 500000) (disch := first | decide | omega) only [↓preS, ↓reduceIte, allS, pickK, nilckK, binK, beqK, cvsK, slK, bndK, slsK, fadK, fldK, iaaK, ixsK, ixaK, extK, lensK, isiK, tasK, st0K, ldpK, lenlK, caplK, mmaK, bldK, ldK, bxK, stoK, stK, blsK, mksK, appK, apzK, apsK, calvK, calvD, cvbK, csbK, sk, notSl, killOf, frzI, AV.ids, AV.ids1, AV.ids2, initR, Nat.reduceBEq, Nat.reduceAdd, Nat.reduceEqDiff, panK, retQ, retQP, resAV, reduceIte, Int.reduceToNat, Int.reduceLE, Int.reduceLT, Nat.reduceLeDiff, rdS, AV.fz, AV.fz1, AV.fz2, Nat.reduceMul, Nat.reducePow, Nat.reduceLT, AV.el, fillEl, Int.reduceBEq, Int.reduceBNe, Int.reduceAdd, Int.reduceSub, Int.reduceMul, Int.reduceGT, Int.reduceGE, decS, Int.reduceNe, Int.reduceEq, inpS, h3, Bool.false_and, Bool.and_false]
    · simp -implicitDefEqProofs (maxSteps := 500000) (disch := first | decide | omega) only [↓preS, ↓reduceIte, allS, pickK, nilckK, binK, beqK, cvsK, slK, bndK, slsK, fadK, fldK, iaaK, ixsK, ixaK, extK, lensK, isiK, tasK, st0K, ldpK, lenlK, caplK, mmaK, bldK, ldK, bxK, stoK, stK, blsK, mksK, appK, apzK, apsK, calvK, calvD, cvbK, csbK, sk, notSl, killOf, frzI, AV.ids, AV.ids1, AV.ids2, initR, Nat.reduceBEq, Nat.reduceAdd, Nat.reduceEqDiff, panK, retQ, retQP, resAV, reduceIte, Int.reduceToNat, Int.reduceLE, Int.reduceLT, Nat.reduceLeDiff, rdS, AV.fz, AV.fz1, AV.fz2, Nat.reduceMul, Nat.reducePow, Nat.reduceLT, AV.el, fillEl, Int.reduceBEq, Int.reduceBNe, Int.reduceAdd, Int.reduceSub, Int.reduceMul, Int.reduceGT, Int.reduceGE, decS, Int.reduceNe, Int.reduceEq, inpS, h2, Bool.false_and, Bool.and_false]
  · simp -implicitDefEqProofs (maxSteps := 500000) (disch := first | decide | omega) only [↓preS, ↓reduceIte, allS, pickK, nilckK, binK, beqK, cvsK, slK, bndK, slsK, fadK, fldK, iaaK, ixsK, ixaK, extK, lensK, isiK, tasK, st0K, ldpK, lenlK, caplK, mmaK, bldK, ldK, bxK, stoK, stK, blsK, mksK, appK, apzK, apsK, calvK, calvD, cvbK, csbK, sk, notSl, killOf, frzI, AV.ids, AV.ids1, AV.ids2, initR, Nat.reduceBEq, Nat.reduceAdd, Nat.reduceEqDiff, panK, retQ, retQP, resAV, reduceIte, Int.reduceToNat, Int.reduceLE, Int.reduceLT, Nat.reduceLeDiff, rdS, AV.fz, AV.fz1, AV.fz2, Nat.reduceMul, Nat.reducePow, Nat.reduceLT, AV.el, fillEl, Int.reduceBEq, Int.reduceBNe, Int.reduceAdd, Int.reduceSub, Int.reduceMul, Int.reduceGT, Int.reduceGE, decS, Int.reduceNe, Int.reduceEq, inpS, h1, Bool.false_and, Bool.and_false]

set_option maxRecDepth 20000 in
set_option maxHeartbeats 4000000 in
theorem same_6 (a b : Inp) (k : a.kind = 6) (hk : b.kind = 6) : ACall Try.prog 18 [INP a, INP b] [] fun r _ => r = .bool (sameB a b) := by
  refine acall_of is18 (by simp) ?_
  unfold cc18
  have e : sameB a b = (a.id == b.id) := by
    unfold sameB; rw [if_neg (by omega)]; rw [if_neg (by omega)]; rw [if_neg (by omega)]; rw [if_neg (by omega)]; rw [if_neg (by omega)]; rw [if_pos (by omega)]
  rw [e]
  simp -implicitDefEqProofs (maxSteps := 500000) (disch := first | decide | omega) only [↓preS, ↓reduceIte, allS, pickK, nilckK, binK, beqK, cvsK, slK, bndK, slsK, fadK, fldK, iaaK, ixsK, ixaK, extK, lensK, isiK, tasK, st0K, ldpK, lenlK, caplK, mmaK, bldK, ldK, bxK, stoK, stK, blsK, mksK, appK, apzK, apsK, calvK, calvD, cvbK, csbK, sk, notSl, killOf, frzI, AV.ids, AV.ids1, AV.ids2, initR, Nat.reduceBEq, Nat.reduceAdd, Nat.reduceEqDiff, panK, retQ, retQP, resAV, reduceIte, Int.reduceToNat, Int.reduceLE, Int.reduceLT, Nat.reduceLeDiff, rdS, AV.fz, AV.fz1, AV.fz2, Nat.reduceMul, Nat.reducePow, Nat.reduceLT, AV.el, fillEl, Int.reduceBEq, Int.reduceBNe, Int.reduceAdd, Int.reduceSub, Int.reduceMul, Int.reduceGT, Int.reduceGE, decS, Int.reduceNe, Int.reduceEq, inpS, k, hk]

set_option maxRecDepth 20000 in
set_option maxHeartbeats 4000000 in
theorem same_7 (a b : Inp) (k : a.kind = 7) (hk : b.kind = 7) : ACall Try.prog 18 [INP a, INP b] [] fun r _ => r = .bool (sameB a b) := by
  refine acall_of is18 (by simp) ?_
  unfold cc18
  have e : sameB a b = (a.id == b.id) := by
    unfold sameB; rw [if_neg (by omega)]; rw [if_neg (by omega)]; rw [if_neg (by omega)]; rw [if_neg (by omega)]; rw [if_neg (by omega)]; rw [if_pos (by omega)]
  rw [e]
  simp -implicitDefEqProofs (maxSteps := 500000) (disch := first | decide | omega) only [↓preS, ↓reduceIte, allS, pickK, nilckK, binK, beqK, cvsK, slK, bndK, slsK, fadK, fldK, iaaK, ixsK, ixaK, extK, lensK, isiK, tasK, st0K, ldpK, lenlK, caplK, mmaK, bldK, ldK, bxK, stoK, stK, blsK, mksK, appK, apzK, apsK, calvK, calvD, cvbK, csbK, sk, notSl, killOf, frzI, AV.ids, AV.ids1, AV.ids2, initR, Nat.reduceBEq, Nat.reduceAdd, Nat.reduceEqDiff, panK, retQ, retQP, resAV, reduceIte, Int.reduceToNat, Int.reduceLE, Int.reduceLT, Nat.reduceLeDiff, rdS, AV.fz, AV.fz1, AV.fz2, Nat.reduceMul, Nat.reducePow, Nat.reduceLT, AV.el, fillEl, Int.reduceBEq, Int.reduceBNe, Int.reduceAdd, Int.reduceSub, Int.reduceMul, Int.reduceGT, Int.reduceGE, decS, Int.reduceNe, Int.reduceEq, inpS, k, hk]

set_option maxRecDepth 20000 in
set_option maxHeartbeats 4000000 in
theorem same_10 (a b : Inp) (k : a.kind = 10) (hk : b.kind = 10) : ACall Try.prog 18 [INP a, INP b] [] fun r _ => r = .bool (sameB a b) := by
  refine acall_of is18 (by simp) ?_
  unfold cc18
  have e : sameB a b = (a.id == b.id) := by
    unfold sameB; rw [if_neg (by omega)]; rw [if_neg (by omega)]; rw [if_neg (by omega)]; rw [if_neg (by omega)]; rw [if_neg (by omega)]; rw [if_pos (by omega)]
  rw [e]
  simp -implicitDefEqProofs (maxSteps := 500000) (disch := first | decide | omega) only [↓preS, ↓reduceIte, allS, pickK, nilckK, binK, beqK, cvsK, slK, bndK, slsK, fadK, fldK, iaaK, ixsK, ixaK, extK, lensK, isiK, tasK, st0K, ldpK, lenlK, caplK, mmaK, bldK, ldK, bxK, stoK, stK, blsK, mksK, appK, apzK, apsK, calvK, calvD, cvbK, csbK, sk, notSl, killOf, frzI, AV.ids, AV.ids1, AV.ids2, initR, Nat.reduceBEq, Nat.reduceAdd, Nat.reduceEqDiff, panK, retQ, retQP, resAV, reduceIte, Int.reduceToNat, Int.reduceLE, Int.reduceLT, Nat.reduceLeDiff, rdS, AV.fz, AV.fz1, AV.fz2, Nat.reduceMul, Nat.reducePow, Nat.reduceLT, AV.el, fillEl, Int.reduceBEq, Int.reduceBNe, Int.reduceAdd, Int.reduceSub, Int.reduceMul, Int.reduceGT, Int.reduceGE, decS, Int.reduceNe, Int.reduceEq, inpS, k, hk]

set_option maxRecDepth 20000 in
set_option maxHeartbeats 4000000 in
theorem same_8 (a b : Inp) (k : a.kind = 8) (hk : b.kind = 8) : ACall Try.prog 18 [INP a, INP b] [] fun r _ => r = .bool (sameB a b) := by
  refine acall_of is18 (by simp) ?_
  unfold cc18
  have e : sameB a b = (a.n == b.n) := by
    unfold sameB; rw [if_neg (by omega)]; rw [if_neg (by omega)]; rw [if_neg (by omega)]; rw [if_neg (by omega)]; rw [if_neg (by omega)]; rw [if_neg (by omega)]; rw [if_pos (by omega)]
  rw [e]
  simp -implicitDefEqProofs (maxSteps := 500000) (disch := first | decide | omega) only [↓preS, ↓reduceIte, allS, pickK, nilckK, binK, beqK, cvsK, slK, bndK, slsK, fadK, fldK, iaaK, ixsK, ixaK, extK, lensK, isiK, tasK, st0K, ldpK, lenlK, caplK, mmaK, bldK, ldK, bxK, stoK, stK, blsK, mksK, appK, apzK, apsK, calvK, calvD, cvbK, csbK, sk, notSl, killOf, frzI, AV.ids, AV.ids1, AV.ids2, initR, Nat.reduceBEq, Nat.reduceAdd, Nat.reduceEqDiff, panK, retQ, retQP, resAV, reduceIte, Int.reduceToNat, Int.reduceLE, Int.reduceLT, Nat.reduceLeDiff, rdS, AV.fz, AV.fz1, AV.fz2, Nat.reduceMul, Nat.reducePow, Nat.reduceLT, AV.el, fillEl, Int.reduceBEq, Int.reduceBNe, Int.reduceAdd, Int.reduceSub, Int.reduceMul, Int.reduceGT, Int.reduceGE, decS, Int.reduceNe, Int.reduceEq, inpS, k, hk]

set_option maxRecDepth 20000 in
set_option maxHeartbeats 4000000 in
theorem same_9 (a b : Inp) (k : a.kind = 9) (hk : b.kind = 9) : ACall Try.prog 18 [INP a, INP b] [] fun r _ => r = .bool (sameB a b) := by
  refine acall_of is18 (by simp) ?_
  unfold cc18
  have e : sameB a b = (a.pId == b.pId && (a.pLab == b.pLab && (a.pFrom == b.pFrom && (a.pUntil == b.pUntil && (a.pMem == b.pMem && (a.pCor == b.pCor && a.n == b.n)))))) := by
    unfold sameB; rw [if_neg (by omega)]; rw [if_neg (by omega)]; rw [if_neg (by omega)]; rw [if_neg (by omega)]; rw [if_neg (by omega)]; rw [if_neg (by omega)]; rw [if_neg (by omega)]; rw [if_pos (by omega)]
  rw [e]
  simp -implicitDefEqProofs (maxSteps := 500000) (disch := first | decide | omega) only [↓preS, ↓reduceIte, allS, pickK, nilckK, binK, beqK, cvsK, slK, bndK, slsK, fadK, fldK, iaaK, ixsK, ixaK, extK, lensK, isiK, tasK, st0K, ldpK, lenlK, caplK, mmaK, bldK, ldK, bxK, stoK, stK, blsK, mksK, appK, apzK, apsK, calvK, calvD, cvbK, csbK, sk, notSl, killOf, frzI, AV.ids, AV.ids1, AV.ids2, initR, Nat.reduceBEq, Nat.reduceAdd, Nat.reduceEqDiff, panK, retQ, retQP, resAV, reduceIte, Int.reduceToNat, Int.reduceLE, Int.reduceLT, Nat.reduceLeDiff, rdS, AV.fz, AV.fz1, AV.fz2, Nat.reduceMul, Nat.reducePow, Nat.reduceLT, AV.el, fillEl, Int.reduceBEq, Int.reduceBNe, Int.reduceAdd, Int.reduceSub, Int.reduceMul, Int.reduceGT, Int.reduceGE, decS, Int.reduceNe, Int.reduceEq, inpS, k, hk, seqK, scEqs, scEq, Option.some.injEq, exists_eq_left']
  (try and_intros) <;> repeat' (refine gK_split (fun hb => ?_) (fun hb => ?_) <;> simp -implicitDefEqProofs (maxSteps := 500000) (disch := first | decide | omega) only [↓preS, ↓reduceIte, allS, pickK, nilckK, binK, beqK, cvsK, slK, bndK, slsK, fadK, fldK, iaaK, ixsK, ixaK, extK, lensK, isiK, tasK, st0K, ldpK, lenlK, caplK, mmaK, bldK, ldK, bxK, stoK, stK, blsK, mksK, appK, apzK, apsK, calvK, calvD, cvbK, csbK, sk, notSl, killOf, frzI, AV.ids, AV.ids1, AV.ids2, initR, Nat.reduceBEq, Nat.reduceAdd, Nat.reduceEqDiff, panK, retQ, retQP, resAV, reduceIte, Int.reduceToNat, Int.reduceLE, Int.reduceLT, Nat.reduceLeDiff, rdS, AV.fz, AV.fz1, AV.fz2, Nat.reduceMul, Nat.reducePow, Nat.reduceLT, AV.el, fillEl, Int.reduceBEq, Int.reduceBNe, Int.reduceAdd, Int.reduceSub, Int.reduceMul, Int.reduceGT, Int.reduceGE, decS, Int.reduceNe, Int.reduceEq, hb, inpS, seqK, scEqs, scEq, Option.some.injEq, exists_eq_left']) <;> simp_all

set_option maxRecDepth 20000 in
set_option maxHeartbeats 4000000 in
theorem same_ok (a b : Inp) (hl : a.ids.length < 2 ^ 63) (hl2 : a.asks.length < 2 ^ 63) : PCall Try.prog 18 [INP a, INP b] (.bool (sameI a b)) := by
  unfold PCall
  by_cases hk : a.kind = b.kind
  · have e : sameI a b = sameB a b := by simp [sameI, hk]
    rw [e]
    by_cases k1 : a.kind = 1
    · exact same_1 a b k1 (by omega)
    by_cases k2 : a.kind = 2
    · exact same_2 a b k2 (by omega)
    by_cases k3 : a.kind = 3
    · exact same_3 a b k3 (by omega) hl
    by_cases k4 : a.kind = 4
    · exact same_4 a b k4 (by omega)
    by_cases k5 : a.kind = 5
    · exact same_5 a b k5 (by omega) hl hl2
    by_cases k6 : a.kind = 6
    · exact same_6 a b k6 (by omega)
    by_cases k7 : a.kind = 7
    · exact same_7 a b k7 (by omega)
    by_cases k8 : a.kind = 8
    · exact same_8 a b k8 (by omega)
    by_cases k9 : a.kind = 9
    · exact same_9 a b k9 (by omega)
    by_cases k10 : a.kind = 10
    · exact same_10 a b k10 (by omega)
    have e : sameB a b = true := by
      unfold sameB
      rw [if_neg k1, if_neg k2, if_neg k3, if_neg k4, if_neg k5, if_neg (by omega), if_neg k8, if_neg k9]
    rw [e]
    refine acall_of is18 (by simp) ?_
    unfold cc18
    simp -implicitDefEqProofs (maxSteps := 500000) (disch := first | decide | omega) only [↓preS, ↓reduceIte, allS, pickK, nilckK, binK, beqK, cvsK, slK, bndK, slsK, fadK, fldK, iaaK, ixsK, ixaK, extK, lensK, isiK, tasK, st0K, ldpK, lenlK, caplK, mmaK, bldK, ldK, bxK, stoK, stK, blsK, mksK, appK, apzK, apsK, calvK, calvD, cvbK, csbK, sk, notSl, killOf, frzI, AV.ids, AV.ids1, AV.ids2, initR, Nat.reduceBEq, Nat.reduceAdd, Nat.reduceEqDiff, panK, retQ, retQP, resAV, reduceIte, Int.reduceToNat, Int.reduceLE, Int.reduceLT, Nat.reduceLeDiff, rdS, AV.fz, AV.fz1, AV.fz2, Nat.reduceMul, Nat.reducePow, Nat.reduceLT, AV.el, fillEl, Int.reduceBEq, Int.reduceBNe, Int.reduceAdd, Int.reduceSub, Int.reduceMul, Int.reduceGT, Int.reduceGE, decS, Int.reduceNe, Int.reduceEq, inpS]
  · have e : sameI a b = false := by simp [sameI, hk]
    rw [e]
    refine acall_of is18 (by simp) ?_
    unfold cc18
    simp -implicitDefEqProofs (maxSteps := 500000) (disch := first | decide | omega) only [↓preS, ↓reduceIte, allS, pickK, nilckK, binK, beqK, cvsK, slK, bndK, slsK, fadK, fldK, iaaK, ixsK, ixaK, extK, lensK, isiK, tasK, st0K, ldpK, lenlK, caplK, mmaK, bldK, ldK, bxK, stoK, stK, blsK, mksK, appK, apzK, apsK, calvK, calvD, cvbK, csbK, sk, notSl, killOf, frzI, AV.ids, AV.ids1, AV.ids2, initR, Nat.reduceBEq, Nat.reduceAdd, Nat.reduceEqDiff, panK, retQ, retQP, resAV, reduceIte, Int.reduceToNat, Int.reduceLE, Int.reduceLT, Nat.reduceLeDiff, rdS, AV.fz, AV.fz1, AV.fz2, Nat.reduceMul, Nat.reducePow, Nat.reduceLT, AV.el, fillEl, Int.reduceBEq, Int.reduceBNe, Int.reduceAdd, Int.reduceSub, Int.reduceMul, Int.reduceGT, Int.reduceGE, decS, Int.reduceNe, Int.reduceEq, inpS]
end Go.Proofs.Ytgpipheibnlkhaa
