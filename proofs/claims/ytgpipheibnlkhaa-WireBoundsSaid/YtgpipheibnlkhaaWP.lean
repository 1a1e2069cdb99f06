/- What functions of the program compute. No condition. -/
import Derived.Test.YtgpipheibnlkhaaWO
set_option linter.unusedSimpArgs false
set_option linter.unusedVariables false
namespace Go.Proofs.Ytgpipheibnlkhaa
open Go Go.Ab

theorem tail4 (v want : Int) (out : Bool) (H : List AO) (i j : Nat) (cs ds : List AV) (hi : H[i]? = some (.box cs)) (hj : H[j]? = some (.box ds)) (x : Inp) (o : Out) (hcs : partOf cs 0 35 true = .agg cs) (hcl : cs.length = 35) (hds : partOf ds 0 5 true = .agg ds) (hdl : ds.length = 5)
    (hx : Wk3 (.agg cs) (INP x)) (ho : Wk3 (.agg ds) (OUT o)) (he : (if out then wrongO o else wrongI x) = if v ≤ 1 then 0 else want) (hv : 0 ≤ v ∧ v < 4) (hwant : want ≠ 0) :
    aw Try.prog cc4T67 (retQ [4] fun y _ => y = .bool true) ⟨[(1, .int .i64 v), (5, .ref i 0 0), (6, .ref j 0 0), (7, .int .i64 want), (8, .bool out)], H⟩ := by
  have c1 : ∃ q, PCall Try.prog 15 [INP x] (.tup [SB q, .int .i64 (wrongI x)]) := by
    have := input_ok x
    unfold inpR at this
    split at this
    · rename_i h; rw [h]; exact ⟨_, this⟩
    · exact ⟨_, this⟩
  have c2 : ∃ q, PCall Try.prog 17 [OUT o] (.tup [SB q, .int .i64 (wrongO o)]) := by
    have := output_ok o
    unfold outR at this
    split at this
    · rename_i h; rw [h]; exact ⟨_, this⟩
    · exact ⟨_, this⟩
  obtain ⟨q1, c1⟩ := c1
  obtain ⟨q2, c2⟩ := c2
  unfold cc4T67
  simp -implicitDefEqProofs (maxSteps := 100000) (disch := first | decide | omega) only [↓preS, ↓reduceIte, allS, pickK, nilckK, binK, beqK, cvsK, slK, bndK, slsK, fadK, fldK, iaaK, ixsK, ixaK, extK, lensK, isiK, tasK, st0K, ldpK, lenlK, caplK, mmaK, bldK, ldK, bxK, stoK, stK, blsK, mksK, appK, apzK, apsK, calvK, calvD, cvbK, csbK, sk, notSl, killOf, frzI, AV.ids, AV.ids1, AV.ids2, initR, Nat.reduceBEq, Nat.reduceAdd, Nat.reduceEqDiff, panK, retQ, retQP, resAV, reduceIte, Int.reduceToNat, Int.reduceLE, Int.reduceLT, Nat.reduceLeDiff, rdS, AV.fz, AV.fz1, AV.fz2, Nat.reduceMul, Nat.reducePow, Nat.reduceLT, AV.el, fillEl, Int.reduceBEq, Int.reduceBNe, Int.reduceAdd, Int.reduceSub, Int.reduceMul, Int.reduceGT, Int.reduceGE, decS, Int.reduceNe, Int.reduceEq, hi, hcs, hcl]
  refine acK_of (FCall.of (lent := false) c1 (.cons (Vw.wk hx rfl) .nil) rfl (by simp)) ?_
  simp -implicitDefEqProofs (maxSteps := 100000) (disch := first | decide | omega) only [↓preS, ↓reduceIte, allS, pickK, nilckK, binK, beqK, cvsK, slK, bndK, slsK, fadK, fldK, iaaK, ixsK, ixaK, extK, lensK, isiK, tasK, st0K, ldpK, lenlK, caplK, mmaK, bldK, ldK, bxK, stoK, stK, blsK, mksK, appK, apzK, apsK, calvK, calvD, cvbK, csbK, sk, notSl, killOf, frzI, AV.ids, AV.ids1, AV.ids2, initR, Nat.reduceBEq, Nat.reduceAdd, Nat.reduceEqDiff, panK, retQ, retQP, resAV, reduceIte, Int.reduceToNat, Int.reduceLE, Int.reduceLT, Nat.reduceLeDiff, rdS, AV.fz, AV.fz1, AV.fz2, Nat.reduceMul, Nat.reducePow, Nat.reduceLT, AV.el, fillEl, Int.reduceBEq, Int.reduceBNe, Int.reduceAdd, Int.reduceSub, Int.reduceMul, Int.reduceGT, Int.reduceGE, decS, Int.reduceNe, Int.reduceEq, SB]
  cases out with
  | true =>
    simp only [if_true] at he
    simp -implicitDefEqProofs (maxSteps := 100000) (disch := first | decide | omega) only [↓preS, ↓reduceIte, allS, pickK, nilckK, binK, beqK, cvsK, slK, bndK, slsK, fadK, fldK, iaaK, ixsK, ixaK, extK, lensK, isiK, tasK, st0K, ldpK, lenlK, caplK, mmaK, bldK, ldK, bxK, stoK, stK, blsK, mksK, appK, apzK, apsK, calvK, calvD, cvbK, csbK, sk, notSl, killOf, frzI, AV.ids, AV.ids1, AV.ids2, initR, Nat.reduceBEq, Nat.reduceAdd, Nat.reduceEqDiff, panK, retQ, retQP, resAV, reduceIte, Int.reduceToNat, Int.reduceLE, Int.reduceLT, Nat.reduceLeDiff, rdS, AV.fz, AV.fz1, AV.fz2, Nat.reduceMul, Nat.reducePow, Nat.reduceLT, AV.el, fillEl, Int.reduceBEq, Int.reduceBNe, Int.reduceAdd, Int.reduceSub, Int.reduceMul, Int.reduceGT, Int.reduceGE, decS, Int.reduceNe, Int.reduceEq, hj, hds, hdl]
    refine acK_of (FCall.of (lent := false) c2 (.cons (Vw.wk ho rfl) .nil) rfl (by simp)) ?_
    rw [he]
    by_cases h1 : v ≤ 1
    · simp -implicitDefEqProofs (maxSteps := 100000) (disch := first | decide | omega) only [↓preS, ↓reduceIte, allS, pickK, nilckK, binK, beqK, cvsK, slK, bndK, slsK, fadK, fldK, iaaK, ixsK, ixaK, extK, lensK, isiK, tasK, st0K, ldpK, lenlK, caplK, mmaK, bldK, ldK, bxK, stoK, stK, blsK, mksK, appK, apzK, apsK, calvK, calvD, cvbK, csbK, sk, notSl, killOf, frzI, AV.ids, AV.ids1, AV.ids2, initR, Nat.reduceBEq, Nat.reduceAdd, Nat.reduceEqDiff, panK, retQ, retQP, resAV, reduceIte, Int.reduceToNat, Int.reduceLE, Int.reduceLT, Nat.reduceLeDiff, rdS, AV.fz, AV.fz1, AV.fz2, Nat.reduceMul, Nat.reducePow, Nat.reduceLT, AV.el, fillEl, Int.reduceBEq, Int.reduceBNe, Int.reduceAdd, Int.reduceSub, Int.reduceMul, Int.reduceGT, Int.reduceGE, decS, Int.reduceNe, Int.reduceEq, SB, h1]
    · simp -implicitDefEqProofs (maxSteps := 100000) (disch := first | decide | omega) only [↓preS, ↓reduceIte, allS, pickK, nilckK, binK, beqK, cvsK, slK, bndK, slsK, fadK, fldK, iaaK, ixsK, ixaK, extK, lensK, isiK, tasK, st0K, ldpK, lenlK, caplK, mmaK, bldK, ldK, bxK, stoK, stK, blsK, mksK, appK, apzK, apsK, calvK, calvD, cvbK, csbK, sk, notSl, killOf, frzI, AV.ids, AV.ids1, AV.ids2, initR, Nat.reduceBEq, Nat.reduceAdd, Nat.reduceEqDiff, panK, retQ, retQP, resAV, reduceIte, Int.reduceToNat, Int.reduceLE, Int.reduceLT, Nat.reduceLeDiff, rdS, AV.fz, AV.fz1, AV.fz2, Nat.reduceMul, Nat.reducePow, Nat.reduceLT, AV.el, fillEl, Int.reduceBEq, Int.reduceBNe, Int.reduceAdd, Int.reduceSub, Int.reduceMul, Int.reduceGT, Int.reduceGE, decS, Int.reduceNe, Int.reduceEq, SB, h1]
  | false =>
    simp only [Bool.false_eq_true, if_false] at he
    rw [he]
    by_cases h1 : v ≤ 1
    · simp -implicitDefEqProofs (maxSteps := 100000) (disch := first | decide | omega) only [↓preS, ↓reduceIte, allS, pickK, nilckK, binK, beqK, cvsK, slK, bndK, slsK, fadK, fldK, iaaK, ixsK, ixaK, extK, lensK, isiK, tasK, st0K, ldpK, lenlK, caplK, mmaK, bldK, ldK, bxK, stoK, stK, blsK, mksK, appK, apzK, apsK, calvK, calvD, cvbK, csbK, sk, notSl, killOf, frzI, AV.ids, AV.ids1, AV.ids2, initR, Nat.reduceBEq, Nat.reduceAdd, Nat.reduceEqDiff, panK, retQ, retQP, resAV, reduceIte, Int.reduceToNat, Int.reduceLE, Int.reduceLT, Nat.reduceLeDiff, rdS, AV.fz, AV.fz1, AV.fz2, Nat.reduceMul, Nat.reducePow, Nat.reduceLT, AV.el, fillEl, Int.reduceBEq, Int.reduceBNe, Int.reduceAdd, Int.reduceSub, Int.reduceMul, Int.reduceGT, Int.reduceGE, decS, Int.reduceNe, Int.reduceEq, SB, h1]
    · simp -implicitDefEqProofs (maxSteps := 100000) (disch := first | decide | omega) only [↓preS, ↓reduceIte, allS, pickK, nilckK, binK, beqK, cvsK, slK, bndK, slsK, fadK, fldK, iaaK, ixsK, ixaK, extK, lensK, isiK, tasK, st0K, ldpK, lenlK, caplK, mmaK, bldK, ldK, bxK, stoK, stK, blsK, mksK, appK, apzK, apsK, calvK, calvD, cvbK, csbK, sk, notSl, killOf, frzI, AV.ids, AV.ids1, AV.ids2, initR, Nat.reduceBEq, Nat.reduceAdd, Nat.reduceEqDiff, panK, retQ, retQP, resAV, reduceIte, Int.reduceToNat, Int.reduceLE, Int.reduceLT, Nat.reduceLeDiff, rdS, AV.fz, AV.fz1, AV.fz2, Nat.reduceMul, Nat.reducePow, Nat.reduceLT, AV.el, fillEl, Int.reduceBEq, Int.reduceBNe, Int.reduceAdd, Int.reduceSub, Int.reduceMul, Int.reduceGT, Int.reduceGE, decS, Int.reduceNe, Int.reduceEq, SB, h1]

theorem wI0 {x : Inp} (h : 1 ≤ x.kind ∧ x.kind ≤ 11) (h2 : ¬ ((x.kind = 1 ∧ 2000 < x.text.length) ∨ (x.kind = 4 ∧ 2000 < x.aQ.length))) (h3 : ¬ ((x.kind = 5 ∧ 20 < x.asks.length) ∨ ((x.kind = 5 ∨ x.kind = 3) ∧ 100 < x.ids.length))) : wrongI x = 0 := by
  unfold wrongI
  rw [if_neg (by omega), if_neg h2, if_neg h3]
theorem wI4 {x : Inp} (h : 1 ≤ x.kind ∧ x.kind ≤ 11) (h2 : ¬ ((x.kind = 1 ∧ 2000 < x.text.length) ∨ (x.kind = 4 ∧ 2000 < x.aQ.length))) (h3 : (x.kind = 5 ∧ 20 < x.asks.length) ∨ ((x.kind = 5 ∨ x.kind = 3) ∧ 100 < x.ids.length)) : wrongI x = 4 := by
  unfold wrongI
  rw [if_neg (by omega), if_neg h2, if_pos h3]
theorem wI5 {x : Inp} (h : 1 ≤ x.kind ∧ x.kind ≤ 11) (h2 : (x.kind = 1 ∧ 2000 < x.text.length) ∨ (x.kind = 4 ∧ 2000 < x.aQ.length)) : wrongI x = 5 := by
  unfold wrongI
  rw [if_neg (by omega), if_pos h2]
theorem wI3 {x : Inp} (h : x.kind < 1 ∨ 11 < x.kind) : wrongI x = 3 := by
  unfold wrongI
  rw [if_pos h]
theorem wO0 {o : Out} (h : 0 ≤ o.err ∧ o.err ≤ 19) (h2 : o.conts.length ≤ 300 ∧ o.ids.length ≤ 300 ∧ o.gone.length ≤ 300) : wrongO o = 0 := by
  have : manyO o = false := by simp [manyO]; omega
  unfold wrongO
  rw [if_neg (by omega), this]
  rfl
theorem wO4 {o : Out} (h : 0 ≤ o.err ∧ o.err ≤ 19) (h2 : 300 < o.conts.length ∨ 300 < o.ids.length ∨ 300 < o.gone.length) : wrongO o = 4 := by
  have : manyO o = true := by simp [manyO]; omega
  unfold wrongO
  rw [if_neg (by omega), this]
  rfl
theorem wO1 {o : Out} (h : o.err < 0 ∨ 19 < o.err) : wrongO o = 1 := by
  unfold wrongO
  rw [if_pos h]

def zOut (e : Int) : Out := ⟨e, [], [], [], 0⟩
def zAsk : Ask := ⟨0, 0, 0, 0, 0, 0, 0, 0⟩
def zCont : Cont := ⟨0, 0, 0, 0, 0, 0, 0, false, 0⟩
theorem rep_ask {n : Nat} : List.replicate n (AV.agg [.int .i64 0, .int .i64 0, .int .i64 0, .int .i64 0, .int .i64 0, .int .i64 0, .int .i64 0, .int .i64 0]) = (List.replicate n zAsk).map ASK := by simp [ASK, zAsk]
theorem rep_cont {n : Nat} : List.replicate n (AV.agg [.int .i64 0, .int .i64 0, .int .i64 0, .int .i64 0, .int .i64 0, .int .i64 0, .int .i64 0, .bool false, .int .i64 0]) = (List.replicate n zCont).map CONT := by simp [CONT, zCont]
theorem wkO (o : Out) (cs : List AV) (h : WkL cs (outC o)) : Wk3 (.agg cs) (OUT o) := .inl (.inr ⟨_, _, rfl, rfl, h⟩)
theorem wkI (x : Inp) (cs : List AV) (h : WkL cs (inpC x)) : Wk3 (.agg cs) (INP x) := .inl (.inr ⟨_, _, rfl, rfl, h⟩)

set_option maxRecDepth 20000 in
set_option maxHeartbeats 8000000 in
theorem bounds_law (w n : Int) (hw : okI w) (hn : okI n) : ACall Try.prog 4 [.int .i64 w, .int .i64 n] [] fun y _ => y = .bool true := by
  refine acall_of is4 (by simp) ?_
  unfold cc4
  simp -implicitDefEqProofs (maxSteps := 100000) (disch := first | decide | omega) only [↓preS, ↓reduceIte, allS, pickK, nilckK, binK, beqK, cvsK, slK, bndK, slsK, fadK, fldK, iaaK, ixsK, ixaK, extK, lensK, isiK, tasK, st0K, ldpK, lenlK, caplK, mmaK, bldK, ldK, bxK, stoK, stK, blsK, mksK, appK, apzK, apsK, calvK, calvD, cvbK, csbK, sk, notSl, killOf, frzI, AV.ids, AV.ids1, AV.ids2, initR, Nat.reduceBEq, Nat.reduceAdd, Nat.reduceEqDiff, panK, retQ, retQP, resAV, reduceIte, Int.reduceToNat, Int.reduceLE, Int.reduceLT, Nat.reduceLeDiff, rdS, AV.fz, AV.fz1, AV.fz2, Nat.reduceMul, Nat.reducePow, Nat.reduceLT, AV.el, fillEl, Int.reduceBEq, Int.reduceBNe, Int.reduceAdd, Int.reduceSub, Int.reduceMul, Int.reduceGT, Int.reduceGE, decS, Int.reduceNe, Int.reduceEq]
  refine acK_of (FCall.of (lent := false) (known_ok) (.refl rfl) rfl (by simp)) ?_
  simp -implicitDefEqProofs (maxSteps := 100000) (disch := first | decide | omega) only [↓preS, ↓reduceIte, allS, pickK, nilckK, binK, beqK, cvsK, slK, bndK, slsK, fadK, fldK, iaaK, ixsK, ixaK, extK, lensK, isiK, tasK, st0K, ldpK, lenlK, caplK, mmaK, bldK, ldK, bxK, stoK, stK, blsK, mksK, appK, apzK, apsK, calvK, calvD, cvbK, csbK, sk, notSl, killOf, frzI, AV.ids, AV.ids1, AV.ids2, initR, Nat.reduceBEq, Nat.reduceAdd, Nat.reduceEqDiff, panK, retQ, retQP, resAV, reduceIte, Int.reduceToNat, Int.reduceLE, Int.reduceLT, Nat.reduceLeDiff, rdS, AV.fz, AV.fz1, AV.fz2, Nat.reduceMul, Nat.reducePow, Nat.reduceLT, AV.el, fillEl, Int.reduceBEq, Int.reduceBNe, Int.reduceAdd, Int.reduceSub, Int.reduceMul, Int.reduceGT, Int.reduceGE, decS, Int.reduceNe, Int.reduceEq]
  have hv := win_rng n 4 (by omega)
  refine acK_of (FCall.of (lent := false) (within_ok n 4 (by omega) (by omega)) (.refl rfl) rfl (by simp)) ?_
  generalize win n 4 = v at hv
  simp -implicitDefEqProofs (maxSteps := 100000) (disch := first | decide | omega) only [↓preS, ↓reduceIte, allS, pickK, nilckK, binK, beqK, cvsK, slK, bndK, slsK, fadK, fldK, iaaK, ixsK, ixaK, extK, lensK, isiK, tasK, st0K, ldpK, lenlK, caplK, mmaK, bldK, ldK, bxK, stoK, stK, blsK, mksK, appK, apzK, apsK, calvK, calvD, cvbK, csbK, sk, notSl, killOf, frzI, AV.ids, AV.ids1, AV.ids2, initR, Nat.reduceBEq, Nat.reduceAdd, Nat.reduceEqDiff, panK, retQ, retQP, resAV, reduceIte, Int.reduceToNat, Int.reduceLE, Int.reduceLT, Nat.reduceLeDiff, rdS, AV.fz, AV.fz1, AV.fz2, Nat.reduceMul, Nat.reducePow, Nat.reduceLT, AV.el, fillEl, Int.reduceBEq, Int.reduceBNe, Int.reduceAdd, Int.reduceSub, Int.reduceMul, Int.reduceGT, Int.reduceGE, decS, Int.reduceNe, Int.reduceEq, fillOk, fillAV]
  have hu := win_rng w 8 (by omega)
  refine acK_of (FCall.of (lent := false) (within_ok w 8 (by omega) (by omega)) (.refl rfl) rfl (by simp)) ?_
  generalize win w 8 = u at hu
  have uc : u = 0 ∨ u = 1 ∨ u = 2 ∨ u = 3 ∨ u = 4 ∨ u = 5 ∨ u = 6 ∨ u = 7 := by omega
  rcases uc with rfl | rfl | rfl | rfl | rfl | rfl | rfl | rfl
  · simp -implicitDefEqProofs (maxSteps := 100000) (disch := first | decide | omega) only [↓preS, ↓reduceIte, allS, pickK, nilckK, binK, beqK, cvsK, slK, bndK, slsK, fadK, fldK, iaaK, ixsK, ixaK, extK, lensK, isiK, tasK, st0K, ldpK, lenlK, caplK, mmaK, bldK, ldK, bxK, stoK, stK, blsK, mksK, appK, apzK, apsK, calvK, calvD, cvbK, csbK, sk, notSl, killOf, frzI, AV.ids, AV.ids1, AV.ids2, initR, Nat.reduceBEq, Nat.reduceAdd, Nat.reduceEqDiff, panK, retQ, retQP, resAV, reduceIte, Int.reduceToNat, Int.reduceLE, Int.reduceLT, Nat.reduceLeDiff, rdS, AV.fz, AV.fz1, AV.fz2, Nat.reduceMul, Nat.reducePow, Nat.reduceLT, AV.el, fillEl, Int.reduceBEq, Int.reduceBNe, Int.reduceAdd, Int.reduceSub, Int.reduceMul, Int.reduceGT, Int.reduceGE, decS, Int.reduceNe, Int.reduceEq, rep_ask]
    refine ⟨by omega, by omega, by omega, by omega, ?_⟩
    refine tail4 v 4 false _ 0 1 _ _ rfl rfl ({ zInp 5 with asks := List.take (19 + v).toNat (List.replicate (19 + v).toNat zAsk) }) (zOut 0) rfl rfl rfl rfl (wkI _ _ (by simp [inpC, zInp, zOut, outC, WkL, Wk1])) (wkO _ _ (by simp [inpC, zInp, zOut, outC, WkL, Wk1])) ?_ hv (by omega)
    by_cases h1 : v ≤ 1
    · rw [if_pos h1]
      exact wI0 (x := { zInp 5 with asks := List.take (19 + v).toNat (List.replicate (19 + v).toNat zAsk) }) (by simp [zInp] <;> omega) (by simp [zInp] <;> omega) (by simp [zInp] <;> omega)
    · rw [if_neg h1]
      exact wI4 (x := { zInp 5 with asks := List.take (19 + v).toNat (List.replicate (19 + v).toNat zAsk) }) (by simp [zInp] <;> omega) (by simp [zInp] <;> omega) (by simp [zInp] <;> omega)
  · simp -implicitDefEqProofs (maxSteps := 100000) (disch := first | decide | omega) only [↓preS, ↓reduceIte, allS, pickK, nilckK, binK, beqK, cvsK, slK, bndK, slsK, fadK, fldK, iaaK, ixsK, ixaK, extK, lensK, isiK, tasK, st0K, ldpK, lenlK, caplK, mmaK, bldK, ldK, bxK, stoK, stK, blsK, mksK, appK, apzK, apsK, calvK, calvD, cvbK, csbK, sk, notSl, killOf, frzI, AV.ids, AV.ids1, AV.ids2, initR, Nat.reduceBEq, Nat.reduceAdd, Nat.reduceEqDiff, panK, retQ, retQP, resAV, reduceIte, Int.reduceToNat, Int.reduceLE, Int.reduceLT, Nat.reduceLeDiff, rdS, AV.fz, AV.fz1, AV.fz2, Nat.reduceMul, Nat.reducePow, Nat.reduceLT, AV.el, fillEl, Int.reduceBEq, Int.reduceBNe, Int.reduceAdd, Int.reduceSub, Int.reduceMul, Int.reduceGT, Int.reduceGE, decS, Int.reduceNe, Int.reduceEq, rep_i64]
    refine ⟨by omega, by omega, by omega, by omega, ?_⟩
    refine tail4 v 4 false _ 0 1 _ _ rfl rfl ({ zInp 5 with ids := List.take (99 + v).toNat (List.replicate (99 + v).toNat 0) }) (zOut 0) rfl rfl rfl rfl (wkI _ _ (by simp [inpC, zInp, zOut, outC, WkL, Wk1])) (wkO _ _ (by simp [inpC, zInp, zOut, outC, WkL, Wk1])) ?_ hv (by omega)
    by_cases h1 : v ≤ 1
    · rw [if_pos h1]
      exact wI0 (x := { zInp 5 with ids := List.take (99 + v).toNat (List.replicate (99 + v).toNat 0) }) (by simp [zInp] <;> omega) (by simp [zInp] <;> omega) (by simp [zInp] <;> omega)
    · rw [if_neg h1]
      exact wI4 (x := { zInp 5 with ids := List.take (99 + v).toNat (List.replicate (99 + v).toNat 0) }) (by simp [zInp] <;> omega) (by simp [zInp] <;> omega) (by simp [zInp] <;> omega)
  · simp -implicitDefEqProofs (maxSteps := 100000) (disch := first | decide | omega) only [↓preS, ↓reduceIte, allS, pickK, nilckK, binK, beqK, cvsK, slK, bndK, slsK, fadK, fldK, iaaK, ixsK, ixaK, extK, lensK, isiK, tasK, st0K, ldpK, lenlK, caplK, mmaK, bldK, ldK, bxK, stoK, stK, blsK, mksK, appK, apzK, apsK, calvK, calvD, cvbK, csbK, sk, notSl, killOf, frzI, AV.ids, AV.ids1, AV.ids2, initR, Nat.reduceBEq, Nat.reduceAdd, Nat.reduceEqDiff, panK, retQ, retQP, resAV, reduceIte, Int.reduceToNat, Int.reduceLE, Int.reduceLT, Nat.reduceLeDiff, rdS, AV.fz, AV.fz1, AV.fz2, Nat.reduceMul, Nat.reducePow, Nat.reduceLT, AV.el, fillEl, Int.reduceBEq, Int.reduceBNe, Int.reduceAdd, Int.reduceSub, Int.reduceMul, Int.reduceGT, Int.reduceGE, decS, Int.reduceNe, Int.reduceEq, rep_u8, fillOk, fillAV]
    refine ⟨by omega, by omega, by omega, by omega, ?_⟩
    refine tail4 v 5 false _ 0 1 _ _ rfl rfl ({ zInp 1 with text := List.take (1999 + v).toNat (List.replicate (1999 + v).toNat 0) }) (zOut 0) rfl rfl rfl rfl (wkI _ _ (by simp [inpC, zInp, zOut, outC, WkL, Wk1])) (wkO _ _ (by simp [inpC, zInp, zOut, outC, WkL, Wk1])) ?_ hv (by omega)
    by_cases h1 : v ≤ 1
    · rw [if_pos h1]
      exact wI0 (x := { zInp 1 with text := List.take (1999 + v).toNat (List.replicate (1999 + v).toNat 0) }) (by simp [zInp] <;> omega) (by simp [zInp] <;> omega) (by simp [zInp] <;> omega)
    · rw [if_neg h1]
      exact wI5 (x := { zInp 1 with text := List.take (1999 + v).toNat (List.replicate (1999 + v).toNat 0) }) (by simp [zInp] <;> omega) (by simp [zInp] <;> omega)
  · simp -implicitDefEqProofs (maxSteps := 100000) (disch := first | decide | omega) only [↓preS, ↓reduceIte, allS, pickK, nilckK, binK, beqK, cvsK, slK, bndK, slsK, fadK, fldK, iaaK, ixsK, ixaK, extK, lensK, isiK, tasK, st0K, ldpK, lenlK, caplK, mmaK, bldK, ldK, bxK, stoK, stK, blsK, mksK, appK, apzK, apsK, calvK, calvD, cvbK, csbK, sk, notSl, killOf, frzI, AV.ids, AV.ids1, AV.ids2, initR, Nat.reduceBEq, Nat.reduceAdd, Nat.reduceEqDiff, panK, retQ, retQP, resAV, reduceIte, Int.reduceToNat, Int.reduceLE, Int.reduceLT, Nat.reduceLeDiff, rdS, AV.fz, AV.fz1, AV.fz2, Nat.reduceMul, Nat.reducePow, Nat.reduceLT, AV.el, fillEl, Int.reduceBEq, Int.reduceBNe, Int.reduceAdd, Int.reduceSub, Int.reduceMul, Int.reduceGT, Int.reduceGE, decS, Int.reduceNe, Int.reduceEq, fillOk, fillAV]
    refine tail4 v 3 false _ 0 1 _ _ rfl rfl (zInp (10 + v)) (zOut 0) rfl rfl rfl rfl (wkI _ _ (by simp [inpC, zInp, zOut, outC, WkL, Wk1])) (wkO _ _ (by simp [inpC, zInp, zOut, outC, WkL, Wk1])) ?_ hv (by omega)
    by_cases h1 : v ≤ 1
    · rw [if_pos h1]
      exact wI0 (x := zInp (10 + v)) (by simp [zInp] <;> omega) (by simp [zInp] <;> omega) (by simp [zInp] <;> omega)
    · rw [if_neg h1]
      exact wI3 (x := zInp (10 + v)) (by simp [zInp] <;> omega)
  · simp -implicitDefEqProofs (maxSteps := 100000) (disch := first | decide | omega) only [↓preS, ↓reduceIte, allS, pickK, nilckK, binK, beqK, cvsK, slK, bndK, slsK, fadK, fldK, iaaK, ixsK, ixaK, extK, lensK, isiK, tasK, st0K, ldpK, lenlK, caplK, mmaK, bldK, ldK, bxK, stoK, stK, blsK, mksK, appK, apzK, apsK, calvK, calvD, cvbK, csbK, sk, notSl, killOf, frzI, AV.ids, AV.ids1, AV.ids2, initR, Nat.reduceBEq, Nat.reduceAdd, Nat.reduceEqDiff, panK, retQ, retQP, resAV, reduceIte, Int.reduceToNat, Int.reduceLE, Int.reduceLT, Nat.reduceLeDiff, rdS, AV.fz, AV.fz1, AV.fz2, Nat.reduceMul, Nat.reducePow, Nat.reduceLT, AV.el, fillEl, Int.reduceBEq, Int.reduceBNe, Int.reduceAdd, Int.reduceSub, Int.reduceMul, Int.reduceGT, Int.reduceGE, decS, Int.reduceNe, Int.reduceEq, rep_cont]
    refine ⟨by omega, by omega, by omega, by omega, ?_⟩
    refine tail4 v 4 true _ 0 1 _ _ rfl rfl (zInp 5) ({ zOut 0 with conts := List.take (299 + v).toNat (List.replicate (299 + v).toNat zCont) }) rfl rfl rfl rfl (wkI _ _ (by simp [inpC, zInp, zOut, outC, WkL, Wk1])) (wkO _ _ (by simp [inpC, zInp, zOut, outC, WkL, Wk1])) ?_ hv (by omega)
    by_cases h1 : v ≤ 1
    · rw [if_pos h1]
      exact wO0 (o := { zOut 0 with conts := List.take (299 + v).toNat (List.replicate (299 + v).toNat zCont) }) (by simp [zOut] <;> omega) (by simp [zOut] <;> omega)
    · rw [if_neg h1]
      exact wO4 (o := { zOut 0 with conts := List.take (299 + v).toNat (List.replicate (299 + v).toNat zCont) }) (by simp [zOut] <;> omega) (by simp [zOut] <;> omega)
  · simp -implicitDefEqProofs (maxSteps := 100000) (disch := first | decide | omega) only [↓preS, ↓reduceIte, allS, pickK, nilckK, binK, beqK, cvsK, slK, bndK, slsK, fadK, fldK, iaaK, ixsK, ixaK, extK, lensK, isiK, tasK, st0K, ldpK, lenlK, caplK, mmaK, bldK, ldK, bxK, stoK, stK, blsK, mksK, appK, apzK, apsK, calvK, calvD, cvbK, csbK, sk, notSl, killOf, frzI, AV.ids, AV.ids1, AV.ids2, initR, Nat.reduceBEq, Nat.reduceAdd, Nat.reduceEqDiff, panK, retQ, retQP, resAV, reduceIte, Int.reduceToNat, Int.reduceLE, Int.reduceLT, Nat.reduceLeDiff, rdS, AV.fz, AV.fz1, AV.fz2, Nat.reduceMul, Nat.reducePow, Nat.reduceLT, AV.el, fillEl, Int.reduceBEq, Int.reduceBNe, Int.reduceAdd, Int.reduceSub, Int.reduceMul, Int.reduceGT, Int.reduceGE, decS, Int.reduceNe, Int.reduceEq, rep_i64]
    refine ⟨by omega, by omega, by omega, by omega, ?_⟩
    refine tail4 v 4 true _ 0 1 _ _ rfl rfl (zInp 5) ({ zOut 0 with ids := List.take (299 + v).toNat (List.replicate (299 + v).toNat 0) }) rfl rfl rfl rfl (wkI _ _ (by simp [inpC, zInp, zOut, outC, WkL, Wk1])) (wkO _ _ (by simp [inpC, zInp, zOut, outC, WkL, Wk1])) ?_ hv (by omega)
    by_cases h1 : v ≤ 1
    · rw [if_pos h1]
      exact wO0 (o := { zOut 0 with ids := List.take (299 + v).toNat (List.replicate (299 + v).toNat 0) }) (by simp [zOut] <;> omega) (by simp [zOut] <;> omega)
    · rw [if_neg h1]
      exact wO4 (o := { zOut 0 with ids := List.take (299 + v).toNat (List.replicate (299 + v).toNat 0) }) (by simp [zOut] <;> omega) (by simp [zOut] <;> omega)
  · simp -implicitDefEqProofs (maxSteps := 100000) (disch := first | decide | omega) only [↓preS, ↓reduceIte, allS, pickK, nilckK, binK, beqK, cvsK, slK, bndK, slsK, fadK, fldK, iaaK, ixsK, ixaK, extK, lensK, isiK, tasK, st0K, ldpK, lenlK, caplK, mmaK, bldK, ldK, bxK, stoK, stK, blsK, mksK, appK, apzK, apsK, calvK, calvD, cvbK, csbK, sk, notSl, killOf, frzI, AV.ids, AV.ids1, AV.ids2, initR, Nat.reduceBEq, Nat.reduceAdd, Nat.reduceEqDiff, panK, retQ, retQP, resAV, reduceIte, Int.reduceToNat, Int.reduceLE, Int.reduceLT, Nat.reduceLeDiff, rdS, AV.fz, AV.fz1, AV.fz2, Nat.reduceMul, Nat.reducePow, Nat.reduceLT, AV.el, fillEl, Int.reduceBEq, Int.reduceBNe, Int.reduceAdd, Int.reduceSub, Int.reduceMul, Int.reduceGT, Int.reduceGE, decS, Int.reduceNe, Int.reduceEq, rep_i64]
    refine ⟨by omega, by omega, by omega, by omega, ?_⟩
    refine tail4 v 4 true _ 0 1 _ _ rfl rfl (zInp 5) ({ zOut 0 with gone := List.take (299 + v).toNat (List.replicate (299 + v).toNat 0) }) rfl rfl rfl rfl (wkI _ _ (by simp [inpC, zInp, zOut, outC, WkL, Wk1])) (wkO _ _ (by simp [inpC, zInp, zOut, outC, WkL, Wk1])) ?_ hv (by omega)
    by_cases h1 : v ≤ 1
    · rw [if_pos h1]
      exact wO0 (o := { zOut 0 with gone := List.take (299 + v).toNat (List.replicate (299 + v).toNat 0) }) (by simp [zOut] <;> omega) (by simp [zOut] <;> omega)
    · rw [if_neg h1]
      exact wO4 (o := { zOut 0 with gone := List.take (299 + v).toNat (List.replicate (299 + v).toNat 0) }) (by simp [zOut] <;> omega) (by simp [zOut] <;> omega)
  · simp -implicitDefEqProofs (maxSteps := 100000) (disch := first | decide | omega) only [↓preS, ↓reduceIte, allS, pickK, nilckK, binK, beqK, cvsK, slK, bndK, slsK, fadK, fldK, iaaK, ixsK, ixaK, extK, lensK, isiK, tasK, st0K, ldpK, lenlK, caplK, mmaK, bldK, ldK, bxK, stoK, stK, blsK, mksK, appK, apzK, apsK, calvK, calvD, cvbK, csbK, sk, notSl, killOf, frzI, AV.ids, AV.ids1, AV.ids2, initR, Nat.reduceBEq, Nat.reduceAdd, Nat.reduceEqDiff, panK, retQ, retQP, resAV, reduceIte, Int.reduceToNat, Int.reduceLE, Int.reduceLT, Nat.reduceLeDiff, rdS, AV.fz, AV.fz1, AV.fz2, Nat.reduceMul, Nat.reducePow, Nat.reduceLT, AV.el, fillEl, Int.reduceBEq, Int.reduceBNe, Int.reduceAdd, Int.reduceSub, Int.reduceMul, Int.reduceGT, Int.reduceGE, decS, Int.reduceNe, Int.reduceEq]
    refine tail4 v 1 true _ 0 1 _ _ rfl rfl (zInp 5) (zOut (18 + v)) rfl rfl rfl rfl (wkI _ _ (by simp [inpC, zInp, zOut, outC, WkL, Wk1])) (wkO _ _ (by simp [inpC, zInp, zOut, outC, WkL, Wk1])) ?_ hv (by omega)
    by_cases h1 : v ≤ 1
    · rw [if_pos h1]
      exact wO0 (o := zOut (18 + v)) (by simp [zOut] <;> omega) (by simp [zOut] <;> omega)
    · rw [if_neg h1]
      exact wO1 (o := zOut (18 + v)) (by simp [zOut] <;> omega)
end Go.Proofs.Ytgpipheibnlkhaa
