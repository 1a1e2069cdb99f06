/- What functions of the program compute. No condition. -/
import Derived.Test.YtgpipheibnlkhaaWG4
import Derived.Test.YtgpipheibnlkhaaWY
import Derived.Test.YtgpipheibnlkhaaR7L10
set_option linter.unusedSimpArgs false
set_option linter.unusedVariables false
namespace Go.Proofs.Ytgpipheibnlkhaa
open Go Go.Ab

def nthI (x : Inp) (i : Nat) : Inp := if i = 0 then x else if i = 1 then goodI x else goodI (goodI x)
structure Fine (x : Inp) : Prop where
  len : x.Len
  rg : x.Rg
theorem Fine.good {x : Inp} (h : Fine x) : Fine (goodI x) := by
  obtain ⟨⟨l1, l2, l3, l4⟩, hr⟩ := h
  refine ⟨⟨?_, ?_, ?_, ?_⟩, hr.good⟩ <;> simp only [goodI, List.length_take] <;> omega
theorem nthI_fine {x : Inp} (h : Fine x) (i : Nat) : Fine (nthI x i) := by
  unfold nthI; split; exact h; split; exact h.good; exact h.good.good
theorem eqAsk_strip (a : Ask) : eqAsk a.strip a = true := by simp [eqAsk, Ask.strip]
theorem eqAsks_strip (l : List Ask) : eqAsks (l.map Ask.strip) l = true := by
  unfold eqAsks
  rw [Bool.and_eq_true, beq_iff_eq, List.all_eq_true]
  refine ⟨by simp, fun i hi => ?_⟩
  have hi2 : i < l.length := by simpa using List.mem_range.1 hi
  rw [List.getD_eq_getElem?_getD, List.getD_eq_getElem?_getD, List.getElem?_map, List.getElem?_eq_getElem hi2]
  exact eqAsk_strip _
theorem eqAsks_self (l : List Ask) : eqAsks l l = true := by
  unfold eqAsks
  rw [Bool.and_eq_true, beq_iff_eq, List.all_eq_true]
  exact ⟨rfl, fun i hi => by simp [eqAsk]⟩
theorem sameI_self (x : Inp) : sameI x x = true := by
  simp only [sameI, sameB, beq_self_eq_true, Bool.true_and, eqAsks_self]
  (repeat' split) <;> rfl
theorem sameI_restr (g : Inp) : sameI (restr g) g = true := by
  have hk := restr_kind g
  unfold sameI sameB
  rw [hk]
  unfold restr
  (repeat' split) <;> simp_all [eqAsks_strip]

set_option maxRecDepth 20000 in
set_option maxHeartbeats 8000000 in
theorem inputs_law (x : Inp) (hx : x.Ok) (y : Inp) : ACall Try.prog 10 [INP x, INP y] [] fun y _ => y = .bool true := by
  refine acall_of is10 (by simp) ?_
  unfold cc10
  simp -implicitDefEqProofs (maxSteps := 500000) (disch := first | decide | omega) only [↓preS, ↓reduceIte, allS, pickK, nilckK, binK, beqK, cvsK, slK, bndK, slsK, fadK, fldK, iaaK, ixsK, ixaK, extK, lensK, isiK, tasK, st0K, ldpK, lenlK, caplK, mmaK, bldK, ldK, bxK, stoK, stK, blsK, mksK, appK, apzK, apsK, calvK, calvD, cvbK, csbK, sk, notSl, killOf, frzI, AV.ids, AV.ids1, AV.ids2, initR, Nat.reduceBEq, Nat.reduceAdd, Nat.reduceEqDiff, panK, retQ, retQP, resAV, reduceIte, Int.reduceToNat, Int.reduceLE, Int.reduceLT, Nat.reduceLeDiff, rdS, AV.fz, AV.fz1, AV.fz2, Nat.reduceMul, Nat.reducePow, Nat.reduceLT, AV.el, fillEl, Int.reduceBEq, Int.reduceBNe, Int.reduceAdd, Int.reduceSub, Int.reduceMul, Int.reduceGT, Int.reduceGE, decS, Int.reduceNe, Int.reduceEq, inpS]
  refine acK_of (FCall.of (lent := false) (known_ok) (.refl rfl) rfl (by simp)) ?_
  simp -implicitDefEqProofs (maxSteps := 500000) (disch := first | decide | omega) only [↓preS, ↓reduceIte, allS, pickK, nilckK, binK, beqK, cvsK, slK, bndK, slsK, fadK, fldK, iaaK, ixsK, ixaK, extK, lensK, isiK, tasK, st0K, ldpK, lenlK, caplK, mmaK, bldK, ldK, bxK, stoK, stK, blsK, mksK, appK, apzK, apsK, calvK, calvD, cvbK, csbK, sk, notSl, killOf, frzI, AV.ids, AV.ids1, AV.ids2, initR, Nat.reduceBEq, Nat.reduceAdd, Nat.reduceEqDiff, panK, retQ, retQP, resAV, reduceIte, Int.reduceToNat, Int.reduceLE, Int.reduceLT, Nat.reduceLeDiff, rdS, AV.fz, AV.fz1, AV.fz2, Nat.reduceMul, Nat.reducePow, Nat.reduceLT, AV.el, fillEl, Int.reduceBEq, Int.reduceBNe, Int.reduceAdd, Int.reduceSub, Int.reduceMul, Int.reduceGT, Int.reduceGE, decS, Int.reduceNe, Int.reduceEq, inpS]
  refine acK_of (FCall.of (lent := false) (few_ok x) (.refl rfl) rfl (by simp)) ?_
  simp -implicitDefEqProofs (maxSteps := 500000) (disch := first | decide | omega) only [↓preS, ↓reduceIte, allS, pickK, nilckK, binK, beqK, cvsK, slK, bndK, slsK, fadK, fldK, iaaK, ixsK, ixaK, extK, lensK, isiK, tasK, st0K, ldpK, lenlK, caplK, mmaK, bldK, ldK, bxK, stoK, stK, blsK, mksK, appK, apzK, apsK, calvK, calvD, cvbK, csbK, sk, notSl, killOf, frzI, AV.ids, AV.ids1, AV.ids2, initR, Nat.reduceBEq, Nat.reduceAdd, Nat.reduceEqDiff, panK, retQ, retQP, resAV, reduceIte, Int.reduceToNat, Int.reduceLE, Int.reduceLT, Nat.reduceLeDiff, rdS, AV.fz, AV.fz1, AV.fz2, Nat.reduceMul, Nat.reducePow, Nat.reduceLT, AV.el, fillEl, Int.reduceBEq, Int.reduceBNe, Int.reduceAdd, Int.reduceSub, Int.reduceMul, Int.reduceGT, Int.reduceGE, decS, Int.reduceNe, Int.reduceEq, inpS]
  cases hfx : fewB x
  · simp -implicitDefEqProofs (maxSteps := 500000) (disch := first | decide | omega) only [↓preS, ↓reduceIte, allS, pickK, nilckK, binK, beqK, cvsK, slK, bndK, slsK, fadK, fldK, iaaK, ixsK, ixaK, extK, lensK, isiK, tasK, st0K, ldpK, lenlK, caplK, mmaK, bldK, ldK, bxK, stoK, stK, blsK, mksK, appK, apzK, apsK, calvK, calvD, cvbK, csbK, sk, notSl, killOf, frzI, AV.ids, AV.ids1, AV.ids2, initR, Nat.reduceBEq, Nat.reduceAdd, Nat.reduceEqDiff, panK, retQ, retQP, resAV, reduceIte, Int.reduceToNat, Int.reduceLE, Int.reduceLT, Nat.reduceLeDiff, rdS, AV.fz, AV.fz1, AV.fz2, Nat.reduceMul, Nat.reducePow, Nat.reduceLT, AV.el, fillEl, Int.reduceBEq, Int.reduceBNe, Int.reduceAdd, Int.reduceSub, Int.reduceMul, Int.reduceGT, Int.reduceGE, decS, Int.reduceNe, Int.reduceEq, inpS]
  simp -implicitDefEqProofs (maxSteps := 500000) (disch := first | decide | omega) only [↓preS, ↓reduceIte, allS, pickK, nilckK, binK, beqK, cvsK, slK, bndK, slsK, fadK, fldK, iaaK, ixsK, ixaK, extK, lensK, isiK, tasK, st0K, ldpK, lenlK, caplK, mmaK, bldK, ldK, bxK, stoK, stK, blsK, mksK, appK, apzK, apsK, calvK, calvD, cvbK, csbK, sk, notSl, killOf, frzI, AV.ids, AV.ids1, AV.ids2, initR, Nat.reduceBEq, Nat.reduceAdd, Nat.reduceEqDiff, panK, retQ, retQP, resAV, reduceIte, Int.reduceToNat, Int.reduceLE, Int.reduceLT, Nat.reduceLeDiff, rdS, AV.fz, AV.fz1, AV.fz2, Nat.reduceMul, Nat.reducePow, Nat.reduceLT, AV.el, fillEl, Int.reduceBEq, Int.reduceBNe, Int.reduceAdd, Int.reduceSub, Int.reduceMul, Int.reduceGT, Int.reduceGE, decS, Int.reduceNe, Int.reduceEq, inpS]
  refine acK_of (FCall.of (lent := false) (few_ok y) (.refl rfl) rfl (by simp)) ?_
  simp -implicitDefEqProofs (maxSteps := 500000) (disch := first | decide | omega) only [↓preS, ↓reduceIte, allS, pickK, nilckK, binK, beqK, cvsK, slK, bndK, slsK, fadK, fldK, iaaK, ixsK, ixaK, extK, lensK, isiK, tasK, st0K, ldpK, lenlK, caplK, mmaK, bldK, ldK, bxK, stoK, stK, blsK, mksK, appK, apzK, apsK, calvK, calvD, cvbK, csbK, sk, notSl, killOf, frzI, AV.ids, AV.ids1, AV.ids2, initR, Nat.reduceBEq, Nat.reduceAdd, Nat.reduceEqDiff, panK, retQ, retQP, resAV, reduceIte, Int.reduceToNat, Int.reduceLE, Int.reduceLT, Nat.reduceLeDiff, rdS, AV.fz, AV.fz1, AV.fz2, Nat.reduceMul, Nat.reducePow, Nat.reduceLT, AV.el, fillEl, Int.reduceBEq, Int.reduceBNe, Int.reduceAdd, Int.reduceSub, Int.reduceMul, Int.reduceGT, Int.reduceGE, decS, Int.reduceNe, Int.reduceEq, inpS]
  cases hfy : fewB y
  · simp -implicitDefEqProofs (maxSteps := 500000) (disch := first | decide | omega) only [↓preS, ↓reduceIte, allS, pickK, nilckK, binK, beqK, cvsK, slK, bndK, slsK, fadK, fldK, iaaK, ixsK, ixaK, extK, lensK, isiK, tasK, st0K, ldpK, lenlK, caplK, mmaK, bldK, ldK, bxK, stoK, stK, blsK, mksK, appK, apzK, apsK, calvK, calvD, cvbK, csbK, sk, notSl, killOf, frzI, AV.ids, AV.ids1, AV.ids2, initR, Nat.reduceBEq, Nat.reduceAdd, Nat.reduceEqDiff, panK, retQ, retQP, resAV, reduceIte, Int.reduceToNat, Int.reduceLE, Int.reduceLT, Nat.reduceLeDiff, rdS, AV.fz, AV.fz1, AV.fz2, Nat.reduceMul, Nat.reducePow, Nat.reduceLT, AV.el, fillEl, Int.reduceBEq, Int.reduceBNe, Int.reduceAdd, Int.reduceSub, Int.reduceMul, Int.reduceGT, Int.reduceGE, decS, Int.reduceNe, Int.reduceEq, inpS]
  simp -implicitDefEqProofs (maxSteps := 500000) (disch := first | decide | omega) only [↓preS, ↓reduceIte, allS, pickK, nilckK, binK, beqK, cvsK, slK, bndK, slsK, fadK, fldK, iaaK, ixsK, ixaK, extK, lensK, isiK, tasK, st0K, ldpK, lenlK, caplK, mmaK, bldK, ldK, bxK, stoK, stK, blsK, mksK, appK, apzK, apsK, calvK, calvD, cvbK, csbK, sk, notSl, killOf, frzI, AV.ids, AV.ids1, AV.ids2, initR, Nat.reduceBEq, Nat.reduceAdd, Nat.reduceEqDiff, panK, retQ, retQP, resAV, reduceIte, Int.reduceToNat, Int.reduceLE, Int.reduceLT, Nat.reduceLeDiff, rdS, AV.fz, AV.fz1, AV.fz2, Nat.reduceMul, Nat.reducePow, Nat.reduceLT, AV.el, fillEl, Int.reduceBEq, Int.reduceBNe, Int.reduceAdd, Int.reduceSub, Int.reduceMul, Int.reduceGT, Int.reduceGE, decS, Int.reduceNe, Int.reduceEq, inpS]
  unfold cc10L0
  simp -implicitDefEqProofs (maxSteps := 500000) (disch := first | decide | omega) only [↓preS, ↓reduceIte, allS, pickK, nilckK, binK, beqK, cvsK, slK, bndK, slsK, fadK, fldK, iaaK, ixsK, ixaK, extK, lensK, isiK, tasK, st0K, ldpK, lenlK, caplK, mmaK, bldK, ldK, bxK, stoK, stK, blsK, mksK, appK, apzK, apsK, calvK, calvD, cvbK, csbK, sk, notSl, killOf, frzI, AV.ids, AV.ids1, AV.ids2, initR, Nat.reduceBEq, Nat.reduceAdd, Nat.reduceEqDiff, panK, retQ, retQP, resAV, reduceIte, Int.reduceToNat, Int.reduceLE, Int.reduceLT, Nat.reduceLeDiff, rdS, AV.fz, AV.fz1, AV.fz2, Nat.reduceMul, Nat.reducePow, Nat.reduceLT, AV.el, fillEl, Int.reduceBEq, Int.reduceBNe, Int.reduceAdd, Int.reduceSub, Int.reduceMul, Int.reduceGT, Int.reduceGE, decS, Int.reduceNe, Int.reduceEq, inpS]
  refine aw_loopS (σ := Nat) (fun i => ⟨[(2, .ref 0 0 0), (3, .ref 1 0 0), (5, .int .i64 (i : Int))], [.box (inpC (nthI x i)), .box (inpC y)]⟩) (fun i => i ≤ 2) (fun i => 2 - i) 0 (.inl rfl) (by simp) ?_
  intro k hk
  unfold cc10l0
  have ro := nthI_fine (x := x) ⟨hx.len, hx.rg⟩ k
  by_cases hk2 : k < 2
  · have en : nthI x (k + 1) = goodI (nthI x k) := by
      have : k = 0 ∨ k = 1 := by omega
      rcases this with rfl | rfl <;> rfl
    obtain ⟨hl, hr⟩ := ro
    have d1 := input_ok (nthI x k)
    have d2 := xinput_ok (nthI x k)
    have d6 := good_ok (nthI x k) hl
    rw [← en] at d6
    have d3 := same_ok (nthI x k) y hl.ids hl.asks
    have d4 := xsame_ok (nthI x k) y hl.ids hl.asks
    have d5 := same_ok (nthI x k) (nthI x k) hl.ids hl.asks
    rw [sameI_self] at d5
    have d7 := xsame_ok (restr (nthI x k)) (nthI x k) (by have := restr_ids (nthI x k); have := hl.ids; omega) (by have := restr_asks (nthI x k); have := hl.asks; omega)
    rw [sameI_restr] at d7
    have fin : ∀ H : List AO, Ab.Sub 0 ⟨[(2, .ref 0 0 0), (3, .ref 1 0 0), (5, .int .i64 ((k : Int) + 1))], .box (inpC (nthI x (k + 1))) :: .box (inpC y) :: H⟩ ⟨[(2, .ref 0 0 0), (3, .ref 1 0 0), (5, .int .i64 ((k + 1 : Nat) : Int))], [.box (inpC (nthI x (k + 1))), .box (inpC y)]⟩ := by
      intro H
      generalize nthI x (k + 1) = o1
      (refine Sub.ofL [some 0, some 1] rfl (by simp) (by decide) (by simp [partL, AO.ro, AV.ro, AV.roL, names, AO.empty, SB, U8, SI, I64, STR]) (by simp [AO.bo, AV.bo, AV.boL, names]) ?_ <;> (try simp only [List.map_cons, List.map_nil, regsL, AV.ro, AV.roL, AV.bo, AV.boL, names, get_here, get_there, Nat.reduceBEq, List.getD_cons_zero, List.getD_cons_succ, List.getD_nil, and_true, true_and, Nat.reduceLT, List.length_cons, List.length_nil, Nat.reduceAdd, decide_true, Option.isSome_some, Bool.true_or, Bool.and_self, Option.isSome_none, Bool.false_or, beq_self_eq_true, wk0_self, wk0_nils]) <;> (try and_intros) <;> (first | done | rfl | exact .inl rfl | exact .inr ⟨rfl, _, _, rfl⟩ | (simp; done) | (simp; omega) | (refine .inl ?_; simp; done) | (refine .inl ?_; simp; omega)))
    generalize nthI x k = o at *
    generalize eo : nthI x (k + 1) = o1 at *
    generalize sameI o y = sb at d3 d4
    by_cases hw : wrongI o = 0
    · rw [show inpR o = .tup [SB (enc o), .int .i64 0] from if_pos hw] at d1 d2
      have c2 := parse_ok (enc o) (enc_le hw)
      rw [parse_w hw hr] at c2
      unfold parR at c2
      generalize restr o = ox at c2 d7
      simp -implicitDefEqProofs (maxSteps := 500000) (disch := first | decide | omega) only [↓preS, ↓reduceIte, allS, pickK, nilckK, binK, beqK, cvsK, slK, bndK, slsK, fadK, fldK, iaaK, ixsK, ixaK, extK, lensK, isiK, tasK, st0K, ldpK, lenlK, caplK, mmaK, bldK, ldK, bxK, stoK, stK, blsK, mksK, appK, apzK, apsK, calvK, calvD, cvbK, csbK, sk, notSl, killOf, frzI, AV.ids, AV.ids1, AV.ids2, initR, Nat.reduceBEq, Nat.reduceAdd, Nat.reduceEqDiff, panK, retQ, retQP, resAV, reduceIte, Int.reduceToNat, Int.reduceLE, Int.reduceLT, Nat.reduceLeDiff, rdS, AV.fz, AV.fz1, AV.fz2, Nat.reduceMul, Nat.reducePow, Nat.reduceLT, AV.el, fillEl, Int.reduceBEq, Int.reduceBNe, Int.reduceAdd, Int.reduceSub, Int.reduceMul, Int.reduceGT, Int.reduceGE, decS, Int.reduceNe, Int.reduceEq, inpS]
      refine acK_of (FCall.of (lent := false) (d1) (.refl rfl) rfl (by simp)) ?_
      simp -implicitDefEqProofs (maxSteps := 500000) (disch := first | decide | omega) only [↓preS, ↓reduceIte, allS, pickK, nilckK, binK, beqK, cvsK, slK, bndK, slsK, fadK, fldK, iaaK, ixsK, ixaK, extK, lensK, isiK, tasK, st0K, ldpK, lenlK, caplK, mmaK, bldK, ldK, bxK, stoK, stK, blsK, mksK, appK, apzK, apsK, calvK, calvD, cvbK, csbK, sk, notSl, killOf, frzI, AV.ids, AV.ids1, AV.ids2, initR, Nat.reduceBEq, Nat.reduceAdd, Nat.reduceEqDiff, panK, retQ, retQP, resAV, reduceIte, Int.reduceToNat, Int.reduceLE, Int.reduceLT, Nat.reduceLeDiff, rdS, AV.fz, AV.fz1, AV.fz2, Nat.reduceMul, Nat.reducePow, Nat.reduceLT, AV.el, fillEl, Int.reduceBEq, Int.reduceBNe, Int.reduceAdd, Int.reduceSub, Int.reduceMul, Int.reduceGT, Int.reduceGE, decS, Int.reduceNe, Int.reduceEq, inpS, SB]
      refine acK_of (FCall.of (lent := false) (d2) (.refl rfl) rfl (by simp)) ?_
      simp -implicitDefEqProofs (maxSteps := 500000) (disch := first | decide | omega) only [↓preS, ↓reduceIte, allS, pickK, nilckK, binK, beqK, cvsK, slK, bndK, slsK, fadK, fldK, iaaK, ixsK, ixaK, extK, lensK, isiK, tasK, st0K, ldpK, lenlK, caplK, mmaK, bldK, ldK, bxK, stoK, stK, blsK, mksK, appK, apzK, apsK, calvK, calvD, cvbK, csbK, sk, notSl, killOf, frzI, AV.ids, AV.ids1, AV.ids2, initR, Nat.reduceBEq, Nat.reduceAdd, Nat.reduceEqDiff, panK, retQ, retQP, resAV, reduceIte, Int.reduceToNat, Int.reduceLE, Int.reduceLT, Nat.reduceLeDiff, rdS, AV.fz, AV.fz1, AV.fz2, Nat.reduceMul, Nat.reducePow, Nat.reduceLT, AV.el, fillEl, Int.reduceBEq, Int.reduceBNe, Int.reduceAdd, Int.reduceSub, Int.reduceMul, Int.reduceGT, Int.reduceGE, decS, Int.reduceNe, Int.reduceEq, inpS, SB]
      refine fcK_of (FCall.of (lent := false) (d3) (.refl rfl) rfl (by simp)) ?_
      simp -implicitDefEqProofs (maxSteps := 500000) (disch := first | decide | omega) only [↓preS, ↓reduceIte, allS, pickK, nilckK, binK, beqK, cvsK, slK, bndK, slsK, fadK, fldK, iaaK, ixsK, ixaK, extK, lensK, isiK, tasK, st0K, ldpK, lenlK, caplK, mmaK, bldK, ldK, bxK, stoK, stK, blsK, mksK, appK, apzK, apsK, calvK, calvD, cvbK, csbK, sk, notSl, killOf, frzI, AV.ids, AV.ids1, AV.ids2, initR, Nat.reduceBEq, Nat.reduceAdd, Nat.reduceEqDiff, panK, retQ, retQP, resAV, reduceIte, Int.reduceToNat, Int.reduceLE, Int.reduceLT, Nat.reduceLeDiff, rdS, AV.fz, AV.fz1, AV.fz2, Nat.reduceMul, Nat.reducePow, Nat.reduceLT, AV.el, fillEl, Int.reduceBEq, Int.reduceBNe, Int.reduceAdd, Int.reduceSub, Int.reduceMul, Int.reduceGT, Int.reduceGE, decS, Int.reduceNe, Int.reduceEq, inpS, SB]
      refine fcK_of (FCall.of (lent := false) (d4) (.refl rfl) rfl (by simp)) ?_
      simp -implicitDefEqProofs (maxSteps := 500000) (disch := first | decide | omega) only [↓preS, ↓reduceIte, allS, pickK, nilckK, binK, beqK, cvsK, slK, bndK, slsK, fadK, fldK, iaaK, ixsK, ixaK, extK, lensK, isiK, tasK, st0K, ldpK, lenlK, caplK, mmaK, bldK, ldK, bxK, stoK, stK, blsK, mksK, appK, apzK, apsK, calvK, calvD, cvbK, csbK, sk, notSl, killOf, frzI, AV.ids, AV.ids1, AV.ids2, initR, Nat.reduceBEq, Nat.reduceAdd, Nat.reduceEqDiff, panK, retQ, retQP, resAV, reduceIte, Int.reduceToNat, Int.reduceLE, Int.reduceLT, Nat.reduceLeDiff, rdS, AV.fz, AV.fz1, AV.fz2, Nat.reduceMul, Nat.reducePow, Nat.reduceLT, AV.el, fillEl, Int.reduceBEq, Int.reduceBNe, Int.reduceAdd, Int.reduceSub, Int.reduceMul, Int.reduceGT, Int.reduceGE, decS, Int.reduceNe, Int.reduceEq, inpS, SB, beq_self_eq_true, bne_self_eq_false, Bool.not_true]
      refine fcK_of (FCall.of (lent := false) (d5) (.refl rfl) rfl (by simp)) ?_
      simp -implicitDefEqProofs (maxSteps := 500000) (disch := first | decide | omega) only [↓preS, ↓reduceIte, allS, pickK, nilckK, binK, beqK, cvsK, slK, bndK, slsK, fadK, fldK, iaaK, ixsK, ixaK, extK, lensK, isiK, tasK, st0K, ldpK, lenlK, caplK, mmaK, bldK, ldK, bxK, stoK, stK, blsK, mksK, appK, apzK, apsK, calvK, calvD, cvbK, csbK, sk, notSl, killOf, frzI, AV.ids, AV.ids1, AV.ids2, initR, Nat.reduceBEq, Nat.reduceAdd, Nat.reduceEqDiff, panK, retQ, retQP, resAV, reduceIte, Int.reduceToNat, Int.reduceLE, Int.reduceLT, Nat.reduceLeDiff, rdS, AV.fz, AV.fz1, AV.fz2, Nat.reduceMul, Nat.reducePow, Nat.reduceLT, AV.el, fillEl, Int.reduceBEq, Int.reduceBNe, Int.reduceAdd, Int.reduceSub, Int.reduceMul, Int.reduceGT, Int.reduceGE, decS, Int.reduceNe, Int.reduceEq, inpS, SB]
      refine acK_of (FCall.of (lent := false) (c2) (.refl rfl) rfl (by simp)) ?_
      simp -implicitDefEqProofs (maxSteps := 500000) (disch := first | decide | omega) only [↓preS, ↓reduceIte, allS, pickK, nilckK, binK, beqK, cvsK, slK, bndK, slsK, fadK, fldK, iaaK, ixsK, ixaK, extK, lensK, isiK, tasK, st0K, ldpK, lenlK, caplK, mmaK, bldK, ldK, bxK, stoK, stK, blsK, mksK, appK, apzK, apsK, calvK, calvD, cvbK, csbK, sk, notSl, killOf, frzI, AV.ids, AV.ids1, AV.ids2, initR, Nat.reduceBEq, Nat.reduceAdd, Nat.reduceEqDiff, panK, retQ, retQP, resAV, reduceIte, Int.reduceToNat, Int.reduceLE, Int.reduceLT, Nat.reduceLeDiff, rdS, AV.fz, AV.fz1, AV.fz2, Nat.reduceMul, Nat.reducePow, Nat.reduceLT, AV.el, fillEl, Int.reduceBEq, Int.reduceBNe, Int.reduceAdd, Int.reduceSub, Int.reduceMul, Int.reduceGT, Int.reduceGE, decS, Int.reduceNe, Int.reduceEq, inpS, SB, List.append_nil]
      refine acK_of (FCall.of (lent := false) (d7) (.refl rfl) rfl (by simp)) ?_
      simp -implicitDefEqProofs (maxSteps := 500000) (disch := first | decide | omega) only [↓preS, ↓reduceIte, allS, pickK, nilckK, binK, beqK, cvsK, slK, bndK, slsK, fadK, fldK, iaaK, ixsK, ixaK, extK, lensK, isiK, tasK, st0K, ldpK, lenlK, caplK, mmaK, bldK, ldK, bxK, stoK, stK, blsK, mksK, appK, apzK, apsK, calvK, calvD, cvbK, csbK, sk, notSl, killOf, frzI, AV.ids, AV.ids1, AV.ids2, initR, Nat.reduceBEq, Nat.reduceAdd, Nat.reduceEqDiff, panK, retQ, retQP, resAV, reduceIte, Int.reduceToNat, Int.reduceLE, Int.reduceLT, Nat.reduceLeDiff, rdS, AV.fz, AV.fz1, AV.fz2, Nat.reduceMul, Nat.reducePow, Nat.reduceLT, AV.el, fillEl, Int.reduceBEq, Int.reduceBNe, Int.reduceAdd, Int.reduceSub, Int.reduceMul, Int.reduceGT, Int.reduceGE, decS, Int.reduceNe, Int.reduceEq, inpS, SB, List.append_nil]
      refine acK_of (FCall.of (lent := false) (d6) (.refl rfl) rfl (by simp)) ?_
      simp -implicitDefEqProofs (maxSteps := 500000) (disch := first | decide | omega) only [↓preS, ↓reduceIte, allS, pickK, nilckK, binK, beqK, cvsK, slK, bndK, slsK, fadK, fldK, iaaK, ixsK, ixaK, extK, lensK, isiK, tasK, st0K, ldpK, lenlK, caplK, mmaK, bldK, ldK, bxK, stoK, stK, blsK, mksK, appK, apzK, apsK, calvK, calvD, cvbK, csbK, sk, notSl, killOf, frzI, AV.ids, AV.ids1, AV.ids2, initR, Nat.reduceBEq, Nat.reduceAdd, Nat.reduceEqDiff, panK, retQ, retQP, resAV, reduceIte, Int.reduceToNat, Int.reduceLE, Int.reduceLT, Nat.reduceLeDiff, rdS, AV.fz, AV.fz1, AV.fz2, Nat.reduceMul, Nat.reducePow, Nat.reduceLT, AV.el, fillEl, Int.reduceBEq, Int.reduceBNe, Int.reduceAdd, Int.reduceSub, Int.reduceMul, Int.reduceGT, Int.reduceGE, decS, Int.reduceNe, Int.reduceEq, inpS, SB, List.append_nil]
      refine ⟨k + 1, ?_, by omega, by omega⟩
      rw [eo]
      exact fin _
    · rw [show inpR o = .tup [SB [], .int .i64 (wrongI o)] from if_neg hw] at d1 d2
      simp -implicitDefEqProofs (maxSteps := 500000) (disch := first | decide | omega) only [↓preS, ↓reduceIte, allS, pickK, nilckK, binK, beqK, cvsK, slK, bndK, slsK, fadK, fldK, iaaK, ixsK, ixaK, extK, lensK, isiK, tasK, st0K, ldpK, lenlK, caplK, mmaK, bldK, ldK, bxK, stoK, stK, blsK, mksK, appK, apzK, apsK, calvK, calvD, cvbK, csbK, sk, notSl, killOf, frzI, AV.ids, AV.ids1, AV.ids2, initR, Nat.reduceBEq, Nat.reduceAdd, Nat.reduceEqDiff, panK, retQ, retQP, resAV, reduceIte, Int.reduceToNat, Int.reduceLE, Int.reduceLT, Nat.reduceLeDiff, rdS, AV.fz, AV.fz1, AV.fz2, Nat.reduceMul, Nat.reducePow, Nat.reduceLT, AV.el, fillEl, Int.reduceBEq, Int.reduceBNe, Int.reduceAdd, Int.reduceSub, Int.reduceMul, Int.reduceGT, Int.reduceGE, decS, Int.reduceNe, Int.reduceEq, inpS]
      refine acK_of (FCall.of (lent := false) (d1) (.refl rfl) rfl (by simp)) ?_
      simp -implicitDefEqProofs (maxSteps := 500000) (disch := first | decide | omega) only [↓preS, ↓reduceIte, allS, pickK, nilckK, binK, beqK, cvsK, slK, bndK, slsK, fadK, fldK, iaaK, ixsK, ixaK, extK, lensK, isiK, tasK, st0K, ldpK, lenlK, caplK, mmaK, bldK, ldK, bxK, stoK, stK, blsK, mksK, appK, apzK, apsK, calvK, calvD, cvbK, csbK, sk, notSl, killOf, frzI, AV.ids, AV.ids1, AV.ids2, initR, Nat.reduceBEq, Nat.reduceAdd, Nat.reduceEqDiff, panK, retQ, retQP, resAV, reduceIte, Int.reduceToNat, Int.reduceLE, Int.reduceLT, Nat.reduceLeDiff, rdS, AV.fz, AV.fz1, AV.fz2, Nat.reduceMul, Nat.reducePow, Nat.reduceLT, AV.el, fillEl, Int.reduceBEq, Int.reduceBNe, Int.reduceAdd, Int.reduceSub, Int.reduceMul, Int.reduceGT, Int.reduceGE, decS, Int.reduceNe, Int.reduceEq, inpS, SB]
      refine acK_of (FCall.of (lent := false) (d2) (.refl rfl) rfl (by simp)) ?_
      simp -implicitDefEqProofs (maxSteps := 500000) (disch := first | decide | omega) only [↓preS, ↓reduceIte, allS, pickK, nilckK, binK, beqK, cvsK, slK, bndK, slsK, fadK, fldK, iaaK, ixsK, ixaK, extK, lensK, isiK, tasK, st0K, ldpK, lenlK, caplK, mmaK, bldK, ldK, bxK, stoK, stK, blsK, mksK, appK, apzK, apsK, calvK, calvD, cvbK, csbK, sk, notSl, killOf, frzI, AV.ids, AV.ids1, AV.ids2, initR, Nat.reduceBEq, Nat.reduceAdd, Nat.reduceEqDiff, panK, retQ, retQP, resAV, reduceIte, Int.reduceToNat, Int.reduceLE, Int.reduceLT, Nat.reduceLeDiff, rdS, AV.fz, AV.fz1, AV.fz2, Nat.reduceMul, Nat.reducePow, Nat.reduceLT, AV.el, fillEl, Int.reduceBEq, Int.reduceBNe, Int.reduceAdd, Int.reduceSub, Int.reduceMul, Int.reduceGT, Int.reduceGE, decS, Int.reduceNe, Int.reduceEq, inpS, SB]
      refine fcK_of (FCall.of (lent := false) (d3) (.refl rfl) rfl (by simp)) ?_
      simp -implicitDefEqProofs (maxSteps := 500000) (disch := first | decide | omega) only [↓preS, ↓reduceIte, allS, pickK, nilckK, binK, beqK, cvsK, slK, bndK, slsK, fadK, fldK, iaaK, ixsK, ixaK, extK, lensK, isiK, tasK, st0K, ldpK, lenlK, caplK, mmaK, bldK, ldK, bxK, stoK, stK, blsK, mksK, appK, apzK, apsK, calvK, calvD, cvbK, csbK, sk, notSl, killOf, frzI, AV.ids, AV.ids1, AV.ids2, initR, Nat.reduceBEq, Nat.reduceAdd, Nat.reduceEqDiff, panK, retQ, retQP, resAV, reduceIte, Int.reduceToNat, Int.reduceLE, Int.reduceLT, Nat.reduceLeDiff, rdS, AV.fz, AV.fz1, AV.fz2, Nat.reduceMul, Nat.reducePow, Nat.reduceLT, AV.el, fillEl, Int.reduceBEq, Int.reduceBNe, Int.reduceAdd, Int.reduceSub, Int.reduceMul, Int.reduceGT, Int.reduceGE, decS, Int.reduceNe, Int.reduceEq, inpS, SB]
      refine fcK_of (FCall.of (lent := false) (d4) (.refl rfl) rfl (by simp)) ?_
      simp -implicitDefEqProofs (maxSteps := 500000) (disch := first | decide | omega) only [↓preS, ↓reduceIte, allS, pickK, nilckK, binK, beqK, cvsK, slK, bndK, slsK, fadK, fldK, iaaK, ixsK, ixaK, extK, lensK, isiK, tasK, st0K, ldpK, lenlK, caplK, mmaK, bldK, ldK, bxK, stoK, stK, blsK, mksK, appK, apzK, apsK, calvK, calvD, cvbK, csbK, sk, notSl, killOf, frzI, AV.ids, AV.ids1, AV.ids2, initR, Nat.reduceBEq, Nat.reduceAdd, Nat.reduceEqDiff, panK, retQ, retQP, resAV, reduceIte, Int.reduceToNat, Int.reduceLE, Int.reduceLT, Nat.reduceLeDiff, rdS, AV.fz, AV.fz1, AV.fz2, Nat.reduceMul, Nat.reducePow, Nat.reduceLT, AV.el, fillEl, Int.reduceBEq, Int.reduceBNe, Int.reduceAdd, Int.reduceSub, Int.reduceMul, Int.reduceGT, Int.reduceGE, decS, Int.reduceNe, Int.reduceEq, inpS, SB, beq_self_eq_true, bne_self_eq_false, Bool.not_true]
      refine fcK_of (FCall.of (lent := false) (d5) (.refl rfl) rfl (by simp)) ?_
      simp -implicitDefEqProofs (maxSteps := 500000) (disch := first | decide | omega) only [↓preS, ↓reduceIte, allS, pickK, nilckK, binK, beqK, cvsK, slK, bndK, slsK, fadK, fldK, iaaK, ixsK, ixaK, extK, lensK, isiK, tasK, st0K, ldpK, lenlK, caplK, mmaK, bldK, ldK, bxK, stoK, stK, blsK, mksK, appK, apzK, apsK, calvK, calvD, cvbK, csbK, sk, notSl, killOf, frzI, AV.ids, AV.ids1, AV.ids2, initR, Nat.reduceBEq, Nat.reduceAdd, Nat.reduceEqDiff, panK, retQ, retQP, resAV, reduceIte, Int.reduceToNat, Int.reduceLE, Int.reduceLT, Nat.reduceLeDiff, rdS, AV.fz, AV.fz1, AV.fz2, Nat.reduceMul, Nat.reducePow, Nat.reduceLT, AV.el, fillEl, Int.reduceBEq, Int.reduceBNe, Int.reduceAdd, Int.reduceSub, Int.reduceMul, Int.reduceGT, Int.reduceGE, decS, Int.reduceNe, Int.reduceEq, inpS, SB]
      refine acK_of (FCall.of (lent := false) (d6) (.refl rfl) rfl (by simp)) ?_
      simp -implicitDefEqProofs (maxSteps := 500000) (disch := first | decide | omega) only [↓preS, ↓reduceIte, allS, pickK, nilckK, binK, beqK, cvsK, slK, bndK, slsK, fadK, fldK, iaaK, ixsK, ixaK, extK, lensK, isiK, tasK, st0K, ldpK, lenlK, caplK, mmaK, bldK, ldK, bxK, stoK, stK, blsK, mksK, appK, apzK, apsK, calvK, calvD, cvbK, csbK, sk, notSl, killOf, frzI, AV.ids, AV.ids1, AV.ids2, initR, Nat.reduceBEq, Nat.reduceAdd, Nat.reduceEqDiff, panK, retQ, retQP, resAV, reduceIte, Int.reduceToNat, Int.reduceLE, Int.reduceLT, Nat.reduceLeDiff, rdS, AV.fz, AV.fz1, AV.fz2, Nat.reduceMul, Nat.reducePow, Nat.reduceLT, AV.el, fillEl, Int.reduceBEq, Int.reduceBNe, Int.reduceAdd, Int.reduceSub, Int.reduceMul, Int.reduceGT, Int.reduceGE, decS, Int.reduceNe, Int.reduceEq, inpS, SB, List.append_nil]
      refine ⟨k + 1, ?_, by omega, by omega⟩
      rw [eo]
      exact fin _
  · have hk9 : k = 2 := by omega
    subst hk9
    have d1 := input_ok (nthI x 2)
    have : wrongI (nthI x 2) = 0 := (goodI_good (goodI x)).wrong
    rw [show inpR (nthI x 2) = .tup [SB (enc (nthI x 2)), .int .i64 0] from if_pos this] at d1
    generalize nthI x 2 = o at d1
    simp -implicitDefEqProofs (maxSteps := 500000) (disch := first | decide | omega) only [↓preS, ↓reduceIte, allS, pickK, nilckK, binK, beqK, cvsK, slK, bndK, slsK, fadK, fldK, iaaK, ixsK, ixaK, extK, lensK, isiK, tasK, st0K, ldpK, lenlK, caplK, mmaK, bldK, ldK, bxK, stoK, stK, blsK, mksK, appK, apzK, apsK, calvK, calvD, cvbK, csbK, sk, notSl, killOf, frzI, AV.ids, AV.ids1, AV.ids2, initR, Nat.reduceBEq, Nat.reduceAdd, Nat.reduceEqDiff, panK, retQ, retQP, resAV, reduceIte, Int.reduceToNat, Int.reduceLE, Int.reduceLT, Nat.reduceLeDiff, rdS, AV.fz, AV.fz1, AV.fz2, Nat.reduceMul, Nat.reducePow, Nat.reduceLT, AV.el, fillEl, Int.reduceBEq, Int.reduceBNe, Int.reduceAdd, Int.reduceSub, Int.reduceMul, Int.reduceGT, Int.reduceGE, decS, Int.reduceNe, Int.reduceEq, inpS]
    refine acK_of (FCall.of (lent := false) (d1) (.refl rfl) rfl (by simp)) ?_
    simp -implicitDefEqProofs (maxSteps := 500000) (disch := first | decide | omega) only [↓preS, ↓reduceIte, allS, pickK, nilckK, binK, beqK, cvsK, slK, bndK, slsK, fadK, fldK, iaaK, ixsK, ixaK, extK, lensK, isiK, tasK, st0K, ldpK, lenlK, caplK, mmaK, bldK, ldK, bxK, stoK, stK, blsK, mksK, appK, apzK, apsK, calvK, calvD, cvbK, csbK, sk, notSl, killOf, frzI, AV.ids, AV.ids1, AV.ids2, initR, Nat.reduceBEq, Nat.reduceAdd, Nat.reduceEqDiff, panK, retQ, retQP, resAV, reduceIte, Int.reduceToNat, Int.reduceLE, Int.reduceLT, Nat.reduceLeDiff, rdS, AV.fz, AV.fz1, AV.fz2, Nat.reduceMul, Nat.reducePow, Nat.reduceLT, AV.el, fillEl, Int.reduceBEq, Int.reduceBNe, Int.reduceAdd, Int.reduceSub, Int.reduceMul, Int.reduceGT, Int.reduceGE, decS, Int.reduceNe, Int.reduceEq, inpS, SB]
end Go.Proofs.Ytgpipheibnlkhaa
