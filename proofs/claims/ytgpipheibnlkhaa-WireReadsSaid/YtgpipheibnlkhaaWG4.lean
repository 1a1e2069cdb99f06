/- What functions of the program compute. No condition. -/
import Derived.Test.YtgpipheibnlkhaaWG3
import Derived.Test.YtgpipheibnlkhaaWT
import Derived.Test.YtgpipheibnlkhaaWT2
set_option linter.unusedSimpArgs false
set_option linter.unusedVariables false
namespace Go.Proofs.Ytgpipheibnlkhaa
open Go Go.Ab

theorem xeqasks_ok (t t2 : Bool) (a b : List Ask) (hl : a.length < 2 ^ 63) : PCall Try.prog 57 [.sl t 8 (a.map ASK), .sl t2 8 (b.map ASK)] (.bool (eqAsks a b)) := by
  unfold PCall
  refine acall_of is57 (by simp) ?_
  unfold cc57
  simp -implicitDefEqProofs (maxSteps := 500000) (disch := first | decide | omega) only [↓preS, ↓reduceIte, allS, pickK, nilckK, binK, beqK, cvsK, slK, bndK, slsK, fadK, fldK, iaaK, ixsK, ixaK, extK, lensK, isiK, tasK, st0K, ldpK, lenlK, caplK, mmaK, bldK, ldK, bxK, stoK, stK, blsK, mksK, appK, apzK, apsK, calvK, calvD, cvbK, csbK, sk, notSl, killOf, frzI, AV.ids, AV.ids1, AV.ids2, initR, Nat.reduceBEq, Nat.reduceAdd, Nat.reduceEqDiff, panK, retQ, retQP, resAV, reduceIte, Int.reduceToNat, Int.reduceLE, Int.reduceLT, Nat.reduceLeDiff, rdS, AV.fz, AV.fz1, AV.fz2, Nat.reduceMul, Nat.reducePow, Nat.reduceLT, AV.el, fillEl, Int.reduceBEq, Int.reduceBNe, Int.reduceAdd, Int.reduceSub, Int.reduceMul, Int.reduceGT, Int.reduceGE, decS, Int.reduceNe, Int.reduceEq]
  refine cK_split (fun hb => ?_) (fun hb => ?_)
  · simp (disch := omega) only [decide_eq_true_eq, decide_eq_false_iff_not, wrap_i64, beq_iff_eq, bne_iff_ne, beq_eq_false_iff_ne, bne_eq_false_iff_eq, Bool.not_eq_true, Bool.not_eq_false, eq_u32, ne_u32] at hb
    simp -implicitDefEqProofs (maxSteps := 500000) (disch := first | decide | omega) only [↓preS, ↓reduceIte, allS, pickK, nilckK, binK, beqK, cvsK, slK, bndK, slsK, fadK, fldK, iaaK, ixsK, ixaK, extK, lensK, isiK, tasK, st0K, ldpK, lenlK, caplK, mmaK, bldK, ldK, bxK, stoK, stK, blsK, mksK, appK, apzK, apsK, calvK, calvD, cvbK, csbK, sk, notSl, killOf, frzI, AV.ids, AV.ids1, AV.ids2, initR, Nat.reduceBEq, Nat.reduceAdd, Nat.reduceEqDiff, panK, retQ, retQP, resAV, reduceIte, Int.reduceToNat, Int.reduceLE, Int.reduceLT, Nat.reduceLeDiff, rdS, AV.fz, AV.fz1, AV.fz2, Nat.reduceMul, Nat.reducePow, Nat.reduceLT, AV.el, fillEl, Int.reduceBEq, Int.reduceBNe, Int.reduceAdd, Int.reduceSub, Int.reduceMul, Int.reduceGT, Int.reduceGE, decS, Int.reduceNe, Int.reduceEq]
    have : (a.length == b.length) = false := by rw [beq_eq_false_iff_ne]; omega
    simp [eqAsks, this]
  simp (disch := omega) only [decide_eq_true_eq, decide_eq_false_iff_not, wrap_i64, beq_iff_eq, bne_iff_ne, beq_eq_false_iff_ne, bne_eq_false_iff_eq, Bool.not_eq_true, Bool.not_eq_false, eq_u32, ne_u32] at hb
  have hab : a.length = b.length := by omega
  simp -implicitDefEqProofs (maxSteps := 500000) (disch := first | decide | omega) only [↓preS, ↓reduceIte, allS, pickK, nilckK, binK, beqK, cvsK, slK, bndK, slsK, fadK, fldK, iaaK, ixsK, ixaK, extK, lensK, isiK, tasK, st0K, ldpK, lenlK, caplK, mmaK, bldK, ldK, bxK, stoK, stK, blsK, mksK, appK, apzK, apsK, calvK, calvD, cvbK, csbK, sk, notSl, killOf, frzI, AV.ids, AV.ids1, AV.ids2, initR, Nat.reduceBEq, Nat.reduceAdd, Nat.reduceEqDiff, panK, retQ, retQP, resAV, reduceIte, Int.reduceToNat, Int.reduceLE, Int.reduceLT, Nat.reduceLeDiff, rdS, AV.fz, AV.fz1, AV.fz2, Nat.reduceMul, Nat.reducePow, Nat.reduceLT, AV.el, fillEl, Int.reduceBEq, Int.reduceBNe, Int.reduceAdd, Int.reduceSub, Int.reduceMul, Int.reduceGT, Int.reduceGE, decS, Int.reduceNe, Int.reduceEq]
  unfold cc57L0
  simp -implicitDefEqProofs (maxSteps := 500000) (disch := first | decide | omega) only [↓preS, ↓reduceIte, allS, pickK, nilckK, binK, beqK, cvsK, slK, bndK, slsK, fadK, fldK, iaaK, ixsK, ixaK, extK, lensK, isiK, tasK, st0K, ldpK, lenlK, caplK, mmaK, bldK, ldK, bxK, stoK, stK, blsK, mksK, appK, apzK, apsK, calvK, calvD, cvbK, csbK, sk, notSl, killOf, frzI, AV.ids, AV.ids1, AV.ids2, initR, Nat.reduceBEq, Nat.reduceAdd, Nat.reduceEqDiff, panK, retQ, retQP, resAV, reduceIte, Int.reduceToNat, Int.reduceLE, Int.reduceLT, Nat.reduceLeDiff, rdS, AV.fz, AV.fz1, AV.fz2, Nat.reduceMul, Nat.reducePow, Nat.reduceLT, AV.el, fillEl, Int.reduceBEq, Int.reduceBNe, Int.reduceAdd, Int.reduceSub, Int.reduceMul, Int.reduceGT, Int.reduceGE, decS, Int.reduceNe, Int.reduceEq]
  refine aw_loopS (σ := Nat) (fun i => ⟨[(0, .sl t 8 (a.map ASK)), (1, .sl t2 8 (b.map ASK)), (5, .int .i64 (i : Int))], []⟩) (fun i => i ≤ a.length ∧ ∀ j, j < i → eqAsk (a.getD j default) (b.getD j default) = true) (fun i => a.length - i) 0 (.inl rfl) ⟨by simp, fun j hj => by omega⟩ ?_
  intro k ⟨hk, hj⟩
  unfold cc57l0
  simp -implicitDefEqProofs (maxSteps := 500000) (disch := first | decide | omega) only [↓preS, ↓reduceIte, allS, pickK, nilckK, binK, beqK, cvsK, slK, bndK, slsK, fadK, fldK, iaaK, ixsK, ixaK, extK, lensK, isiK, tasK, st0K, ldpK, lenlK, caplK, mmaK, bldK, ldK, bxK, stoK, stK, blsK, mksK, appK, apzK, apsK, calvK, calvD, cvbK, csbK, sk, notSl, killOf, frzI, AV.ids, AV.ids1, AV.ids2, initR, Nat.reduceBEq, Nat.reduceAdd, Nat.reduceEqDiff, panK, retQ, retQP, resAV, reduceIte, Int.reduceToNat, Int.reduceLE, Int.reduceLT, Nat.reduceLeDiff, rdS, AV.fz, AV.fz1, AV.fz2, Nat.reduceMul, Nat.reducePow, Nat.reduceLT, AV.el, fillEl, Int.reduceBEq, Int.reduceBNe, Int.reduceAdd, Int.reduceSub, Int.reduceMul, Int.reduceGT, Int.reduceGE, decS, Int.reduceNe, Int.reduceEq]
  refine cK_split (fun hb => ?_) (fun hb => ?_)
  · simp (disch := omega) only [decide_eq_true_eq, decide_eq_false_iff_not, wrap_i64, beq_iff_eq, bne_iff_ne, beq_eq_false_iff_ne, bne_eq_false_iff_eq, Bool.not_eq_true, Bool.not_eq_false, eq_u32, ne_u32] at hb
    simp -implicitDefEqProofs (maxSteps := 500000) (disch := first | decide | omega) only [↓preS, ↓reduceIte, allS, pickK, nilckK, binK, beqK, cvsK, slK, bndK, slsK, fadK, fldK, iaaK, ixsK, ixaK, extK, lensK, isiK, tasK, st0K, ldpK, lenlK, caplK, mmaK, bldK, ldK, bxK, stoK, stK, blsK, mksK, appK, apzK, apsK, calvK, calvD, cvbK, csbK, sk, notSl, killOf, frzI, AV.ids, AV.ids1, AV.ids2, initR, Nat.reduceBEq, Nat.reduceAdd, Nat.reduceEqDiff, panK, retQ, retQP, resAV, reduceIte, Int.reduceToNat, Int.reduceLE, Int.reduceLT, Nat.reduceLeDiff, rdS, AV.fz, AV.fz1, AV.fz2, Nat.reduceMul, Nat.reducePow, Nat.reduceLT, AV.el, fillEl, Int.reduceBEq, Int.reduceBNe, Int.reduceAdd, Int.reduceSub, Int.reduceMul, Int.reduceGT, Int.reduceGE, decS, Int.reduceNe, Int.reduceEq, ASK, partOf, seqK, scEqs, scEq]
    refine ⟨by omega, by omega, by omega, by omega, ⟨_, rfl, ?_⟩, _, rfl, ?_⟩
    · refine cK_split (fun hc => ?_) (fun hc => ?_)
      · simp -implicitDefEqProofs (maxSteps := 500000) (disch := first | decide | omega) only [↓preS, ↓reduceIte, allS, pickK, nilckK, binK, beqK, cvsK, slK, bndK, slsK, fadK, fldK, iaaK, ixsK, ixaK, extK, lensK, isiK, tasK, st0K, ldpK, lenlK, caplK, mmaK, bldK, ldK, bxK, stoK, stK, blsK, mksK, appK, apzK, apsK, calvK, calvD, cvbK, csbK, sk, notSl, killOf, frzI, AV.ids, AV.ids1, AV.ids2, initR, Nat.reduceBEq, Nat.reduceAdd, Nat.reduceEqDiff, panK, retQ, retQP, resAV, reduceIte, Int.reduceToNat, Int.reduceLE, Int.reduceLT, Nat.reduceLeDiff, rdS, AV.fz, AV.fz1, AV.fz2, Nat.reduceMul, Nat.reducePow, Nat.reduceLT, AV.el, fillEl, Int.reduceBEq, Int.reduceBNe, Int.reduceAdd, Int.reduceSub, Int.reduceMul, Int.reduceGT, Int.reduceGE, decS, Int.reduceNe, Int.reduceEq]
        have : eqAsks a b = false := by
          unfold eqAsks
          rw [Bool.and_eq_false_iff]
          right
          rw [List.all_eq_false]
          exact ⟨k, List.mem_range.2 (by omega), by rw [show eqAsk (a.getD k default) (b.getD k default) = false from by rw [Bool.not_eq_true'] at hc; exact hc]; simp⟩
        rw [this]
      · simp -implicitDefEqProofs (maxSteps := 500000) (disch := first | decide | omega) only [↓preS, ↓reduceIte, allS, pickK, nilckK, binK, beqK, cvsK, slK, bndK, slsK, fadK, fldK, iaaK, ixsK, ixaK, extK, lensK, isiK, tasK, st0K, ldpK, lenlK, caplK, mmaK, bldK, ldK, bxK, stoK, stK, blsK, mksK, appK, apzK, apsK, calvK, calvD, cvbK, csbK, sk, notSl, killOf, frzI, AV.ids, AV.ids1, AV.ids2, initR, Nat.reduceBEq, Nat.reduceAdd, Nat.reduceEqDiff, panK, retQ, retQP, resAV, reduceIte, Int.reduceToNat, Int.reduceLE, Int.reduceLT, Nat.reduceLeDiff, rdS, AV.fz, AV.fz1, AV.fz2, Nat.reduceMul, Nat.reducePow, Nat.reduceLT, AV.el, fillEl, Int.reduceBEq, Int.reduceBNe, Int.reduceAdd, Int.reduceSub, Int.reduceMul, Int.reduceGT, Int.reduceGE, decS, Int.reduceNe, Int.reduceEq]
        refine ⟨k + 1, ?_, ⟨by omega, fun j hj2 => ?_⟩, by omega⟩
        · (refine Sub.ofL [] rfl (by simp) (by decide) trivial rfl ?_ <;> (try simp only [List.map_cons, List.map_nil, regsL, AV.ro, AV.roL, AV.bo, AV.boL, names, get_here, get_there, Nat.reduceBEq, List.getD_cons_zero, List.getD_cons_succ, List.getD_nil, and_true, true_and, Nat.reduceLT, List.length_cons, List.length_nil, Nat.reduceAdd, decide_true, Option.isSome_some, Bool.true_or, Bool.and_self, Option.isSome_none, Bool.false_or, beq_self_eq_true, wk0_self, wk0_nils]) <;> (try and_intros) <;> (first | done | rfl | exact .inl rfl | exact .inr ⟨rfl, _, _, rfl⟩ | (simp; done) | (simp; omega) | (refine .inl ?_; simp; done) | (refine .inl ?_; simp; omega)))
        by_cases hjk : j = k
        · subst hjk; rw [Bool.not_eq_false'] at hc; exact hc
        · exact hj j (by omega)
    · refine cK_split (fun hc => ?_) (fun hc => ?_)
      · simp -implicitDefEqProofs (maxSteps := 500000) (disch := first | decide | omega) only [↓preS, ↓reduceIte, allS, pickK, nilckK, binK, beqK, cvsK, slK, bndK, slsK, fadK, fldK, iaaK, ixsK, ixaK, extK, lensK, isiK, tasK, st0K, ldpK, lenlK, caplK, mmaK, bldK, ldK, bxK, stoK, stK, blsK, mksK, appK, apzK, apsK, calvK, calvD, cvbK, csbK, sk, notSl, killOf, frzI, AV.ids, AV.ids1, AV.ids2, initR, Nat.reduceBEq, Nat.reduceAdd, Nat.reduceEqDiff, panK, retQ, retQP, resAV, reduceIte, Int.reduceToNat, Int.reduceLE, Int.reduceLT, Nat.reduceLeDiff, rdS, AV.fz, AV.fz1, AV.fz2, Nat.reduceMul, Nat.reducePow, Nat.reduceLT, AV.el, fillEl, Int.reduceBEq, Int.reduceBNe, Int.reduceAdd, Int.reduceSub, Int.reduceMul, Int.reduceGT, Int.reduceGE, decS, Int.reduceNe, Int.reduceEq]
        have : eqAsks a b = false := by
          unfold eqAsks
          rw [Bool.and_eq_false_iff]
          right
          rw [List.all_eq_false]
          exact ⟨k, List.mem_range.2 (by omega), by rw [show eqAsk (a.getD k default) (b.getD k default) = false from by rw [Bool.not_eq_true'] at hc; exact hc]; simp⟩
        rw [this]
      · simp -implicitDefEqProofs (maxSteps := 500000) (disch := first | decide | omega) only [↓preS, ↓reduceIte, allS, pickK, nilckK, binK, beqK, cvsK, slK, bndK, slsK, fadK, fldK, iaaK, ixsK, ixaK, extK, lensK, isiK, tasK, st0K, ldpK, lenlK, caplK, mmaK, bldK, ldK, bxK, stoK, stK, blsK, mksK, appK, apzK, apsK, calvK, calvD, cvbK, csbK, sk, notSl, killOf, frzI, AV.ids, AV.ids1, AV.ids2, initR, Nat.reduceBEq, Nat.reduceAdd, Nat.reduceEqDiff, panK, retQ, retQP, resAV, reduceIte, Int.reduceToNat, Int.reduceLE, Int.reduceLT, Nat.reduceLeDiff, rdS, AV.fz, AV.fz1, AV.fz2, Nat.reduceMul, Nat.reducePow, Nat.reduceLT, AV.el, fillEl, Int.reduceBEq, Int.reduceBNe, Int.reduceAdd, Int.reduceSub, Int.reduceMul, Int.reduceGT, Int.reduceGE, decS, Int.reduceNe, Int.reduceEq]
        refine ⟨k + 1, ?_, ⟨by omega, fun j hj2 => ?_⟩, by omega⟩
        · (refine Sub.ofL [] rfl (by simp) (by decide) trivial rfl ?_ <;> (try simp only [List.map_cons, List.map_nil, regsL, AV.ro, AV.roL, AV.bo, AV.boL, names, get_here, get_there, Nat.reduceBEq, List.getD_cons_zero, List.getD_cons_succ, List.getD_nil, and_true, true_and, Nat.reduceLT, List.length_cons, List.length_nil, Nat.reduceAdd, decide_true, Option.isSome_some, Bool.true_or, Bool.and_self, Option.isSome_none, Bool.false_or, beq_self_eq_true, wk0_self, wk0_nils]) <;> (try and_intros) <;> (first | done | rfl | exact .inl rfl | exact .inr ⟨rfl, _, _, rfl⟩ | (simp; done) | (simp; omega) | (refine .inl ?_; simp; done) | (refine .inl ?_; simp; omega)))
        by_cases hjk : j = k
        · subst hjk; rw [Bool.not_eq_false'] at hc; exact hc
        · exact hj j (by omega)
  · simp (disch := omega) only [decide_eq_true_eq, decide_eq_false_iff_not, wrap_i64, beq_iff_eq, bne_iff_ne, beq_eq_false_iff_ne, bne_eq_false_iff_eq, Bool.not_eq_true, Bool.not_eq_false, eq_u32, ne_u32] at hb
    simp -implicitDefEqProofs (maxSteps := 500000) (disch := first | decide | omega) only [↓preS, ↓reduceIte, allS, pickK, nilckK, binK, beqK, cvsK, slK, bndK, slsK, fadK, fldK, iaaK, ixsK, ixaK, extK, lensK, isiK, tasK, st0K, ldpK, lenlK, caplK, mmaK, bldK, ldK, bxK, stoK, stK, blsK, mksK, appK, apzK, apsK, calvK, calvD, cvbK, csbK, sk, notSl, killOf, frzI, AV.ids, AV.ids1, AV.ids2, initR, Nat.reduceBEq, Nat.reduceAdd, Nat.reduceEqDiff, panK, retQ, retQP, resAV, reduceIte, Int.reduceToNat, Int.reduceLE, Int.reduceLT, Nat.reduceLeDiff, rdS, AV.fz, AV.fz1, AV.fz2, Nat.reduceMul, Nat.reducePow, Nat.reduceLT, AV.el, fillEl, Int.reduceBEq, Int.reduceBNe, Int.reduceAdd, Int.reduceSub, Int.reduceMul, Int.reduceGT, Int.reduceGE, decS, Int.reduceNe, Int.reduceEq]
    have : eqAsks a b = true := by
      unfold eqAsks
      rw [Bool.and_eq_true, beq_iff_eq, List.all_eq_true]
      exact ⟨hab, fun i hi => hj i (by have := List.mem_range.1 hi; omega)⟩
    rw [this]

set_option maxRecDepth 20000 in
set_option maxHeartbeats 8000000 in
theorem xsame_2 (a b : Inp) (k : a.kind = 2) (hk : b.kind = 2) : ACall Try.prog 23 [INP a, INP b] [] fun r _ => r = .bool (sameB a b) := by
  refine acall_of is23 (by simp) ?_
  unfold cc23
  have e : sameB a b = (a.nId == b.nId && (a.nLab == b.nLab && (a.nRack == b.nRack && (a.nMem == b.nMem && a.nCor == b.nCor)))) := by
    unfold sameB; rw [if_neg (by omega)]; rw [if_pos (by omega)]
  rw [e]
  simp -implicitDefEqProofs (maxSteps := 500000) (disch := first | decide | omega) only [↓preS, ↓reduceIte, allS, pickK, nilckK, binK, beqK, cvsK, slK, bndK, slsK, fadK, fldK, iaaK, ixsK, ixaK, extK, lensK, isiK, tasK, st0K, ldpK, lenlK, caplK, mmaK, bldK, ldK, bxK, stoK, stK, blsK, mksK, appK, apzK, apsK, calvK, calvD, cvbK, csbK, sk, notSl, killOf, frzI, AV.ids, AV.ids1, AV.ids2, initR, Nat.reduceBEq, Nat.reduceAdd, Nat.reduceEqDiff, panK, retQ, retQP, resAV, reduceIte, Int.reduceToNat, Int.reduceLE, Int.reduceLT, Nat.reduceLeDiff, rdS, AV.fz, AV.fz1, AV.fz2, Nat.reduceMul, Nat.reducePow, Nat.reduceLT, AV.el, fillEl, Int.reduceBEq, Int.reduceBNe, Int.reduceAdd, Int.reduceSub, Int.reduceMul, Int.reduceGT, Int.reduceGE, decS, Int.reduceNe, Int.reduceEq, inpS, k, hk, fillOk, fillAV]
  constructor <;> unfold cc23T29 <;> simp -implicitDefEqProofs (maxSteps := 500000) (disch := first | decide | omega) only [↓preS, ↓reduceIte, allS, pickK, nilckK, binK, beqK, cvsK, slK, bndK, slsK, fadK, fldK, iaaK, ixsK, ixaK, extK, lensK, isiK, tasK, st0K, ldpK, lenlK, caplK, mmaK, bldK, ldK, bxK, stoK, stK, blsK, mksK, appK, apzK, apsK, calvK, calvD, cvbK, csbK, sk, notSl, killOf, frzI, AV.ids, AV.ids1, AV.ids2, initR, Nat.reduceBEq, Nat.reduceAdd, Nat.reduceEqDiff, panK, retQ, retQP, resAV, reduceIte, Int.reduceToNat, Int.reduceLE, Int.reduceLT, Nat.reduceLeDiff, rdS, AV.fz, AV.fz1, AV.fz2, Nat.reduceMul, Nat.reducePow, Nat.reduceLT, AV.el, fillEl, Int.reduceBEq, Int.reduceBNe, Int.reduceAdd, Int.reduceSub, Int.reduceMul, Int.reduceGT, Int.reduceGE, decS, Int.reduceNe, Int.reduceEq, inpS, seqK, scEqs, scEq, Option.some.injEq, exists_eq_left'] <;> repeat' (refine gK_split (fun hb => ?_) (fun hb => ?_) <;> simp -implicitDefEqProofs (maxSteps := 500000) (disch := first | decide | omega) only [↓preS, ↓reduceIte, allS, pickK, nilckK, binK, beqK, cvsK, slK, bndK, slsK, fadK, fldK, iaaK, ixsK, ixaK, extK, lensK, isiK, tasK, st0K, ldpK, lenlK, caplK, mmaK, bldK, ldK, bxK, stoK, stK, blsK, mksK, appK, apzK, apsK, calvK, calvD, cvbK, csbK, sk, notSl, killOf, frzI, AV.ids, AV.ids1, AV.ids2, initR, Nat.reduceBEq, Nat.reduceAdd, Nat.reduceEqDiff, panK, retQ, retQP, resAV, reduceIte, Int.reduceToNat, Int.reduceLE, Int.reduceLT, Nat.reduceLeDiff, rdS, AV.fz, AV.fz1, AV.fz2, Nat.reduceMul, Nat.reducePow, Nat.reduceLT, AV.el, fillEl, Int.reduceBEq, Int.reduceBNe, Int.reduceAdd, Int.reduceSub, Int.reduceMul, Int.reduceGT, Int.reduceGE, decS, Int.reduceNe, Int.reduceEq, hb, inpS, seqK, scEqs, scEq, Option.some.injEq, exists_eq_left']) <;> simp_all

set_option maxRecDepth 20000 in
set_option maxHeartbeats 8000000 in
theorem xsame_4 (a b : Inp) (k : a.kind = 4) (hk : b.kind = 4) : ACall Try.prog 23 [INP a, INP b] [] fun r _ => r = .bool (sameB a b) := by
  refine acall_of is23 (by simp) ?_
  unfold cc23
  have e : sameB a b = (a.aId == b.aId && (a.aQ == b.aQ && (a.aUser == b.aUser && (a.aPrio == b.aPrio && (a.aMem == b.aMem && a.aCor == b.aCor))))) := by
    unfold sameB; rw [if_neg (by omega)]; rw [if_neg (by omega)]; rw [if_neg (by omega)]; rw [if_pos (by omega)]
  rw [e]
  simp -implicitDefEqProofs (maxSteps := 500000) (disch := first | decide | omega) only [↓preS, ↓reduceIte, allS, pickK, nilckK, binK, beqK, cvsK, slK, bndK, slsK, fadK, fldK, iaaK, ixsK, ixaK, extK, lensK, isiK, tasK, st0K, ldpK, lenlK, caplK, mmaK, bldK, ldK, bxK, stoK, stK, blsK, mksK, appK, apzK, apsK, calvK, calvD, cvbK, csbK, sk, notSl, killOf, frzI, AV.ids, AV.ids1, AV.ids2, initR, Nat.reduceBEq, Nat.reduceAdd, Nat.reduceEqDiff, panK, retQ, retQP, resAV, reduceIte, Int.reduceToNat, Int.reduceLE, Int.reduceLT, Nat.reduceLeDiff, rdS, AV.fz, AV.fz1, AV.fz2, Nat.reduceMul, Nat.reducePow, Nat.reduceLT, AV.el, fillEl, Int.reduceBEq, Int.reduceBNe, Int.reduceAdd, Int.reduceSub, Int.reduceMul, Int.reduceGT, Int.reduceGE, decS, Int.reduceNe, Int.reduceEq, inpS, k, hk, fillOk, fillAV]
  constructor <;> unfold cc23T82 <;> simp -implicitDefEqProofs (maxSteps := 500000) (disch := first | decide | omega) only [↓preS, ↓reduceIte, allS, pickK, nilckK, binK, beqK, cvsK, slK, bndK, slsK, fadK, fldK, iaaK, ixsK, ixaK, extK, lensK, isiK, tasK, st0K, ldpK, lenlK, caplK, mmaK, bldK, ldK, bxK, stoK, stK, blsK, mksK, appK, apzK, apsK, calvK, calvD, cvbK, csbK, sk, notSl, killOf, frzI, AV.ids, AV.ids1, AV.ids2, initR, Nat.reduceBEq, Nat.reduceAdd, Nat.reduceEqDiff, panK, retQ, retQP, resAV, reduceIte, Int.reduceToNat, Int.reduceLE, Int.reduceLT, Nat.reduceLeDiff, rdS, AV.fz, AV.fz1, AV.fz2, Nat.reduceMul, Nat.reducePow, Nat.reduceLT, AV.el, fillEl, Int.reduceBEq, Int.reduceBNe, Int.reduceAdd, Int.reduceSub, Int.reduceMul, Int.reduceGT, Int.reduceGE, decS, Int.reduceNe, Int.reduceEq, inpS, seqK, scEqs, scEq, Option.some.injEq, exists_eq_left'] <;> repeat' (refine gK_split (fun hb => ?_) (fun hb => ?_) <;> simp -implicitDefEqProofs (maxSteps := 500000) (disch := first | decide | omega) only [↓preS, ↓reduceIte, allS, pickK, nilckK, binK, beqK, cvsK, slK, bndK, slsK, fadK, fldK, iaaK, ixsK, ixaK, extK, lensK, isiK, tasK, st0K, ldpK, lenlK, caplK, mmaK, bldK, ldK, bxK, stoK, stK, blsK, mksK, appK, apzK, apsK, calvK, calvD, cvbK, csbK, sk, notSl, killOf, frzI, AV.ids, AV.ids1, AV.ids2, initR, Nat.reduceBEq, Nat.reduceAdd, Nat.reduceEqDiff, panK, retQ, retQP, resAV, reduceIte, Int.reduceToNat, Int.reduceLE, Int.reduceLT, Nat.reduceLeDiff, rdS, AV.fz, AV.fz1, AV.fz2, Nat.reduceMul, Nat.reducePow, Nat.reduceLT, AV.el, fillEl, Int.reduceBEq, Int.reduceBNe, Int.reduceAdd, Int.reduceSub, Int.reduceMul, Int.reduceGT, Int.reduceGE, decS, Int.reduceNe, Int.reduceEq, hb, inpS, seqK, scEqs, scEq, Option.some.injEq, exists_eq_left']) <;> simp_all

set_option maxRecDepth 20000 in
set_option maxHeartbeats 4000000 in
theorem xsame_1 (a b : Inp) (k : a.kind = 1) (hk : b.kind = 1) : ACall Try.prog 23 [INP a, INP b] [] fun r _ => r = .bool (sameB a b) := by
  refine acall_of is23 (by simp) ?_
  unfold cc23
  have e : sameB a b = (a.text == b.text) := by
    unfold sameB; rw [if_pos (by omega)]
  rw [e]
  simp -implicitDefEqProofs (maxSteps := 500000) (disch := first | decide | omega) only [↓preS, ↓reduceIte, allS, pickK, nilckK, binK, beqK, cvsK, slK, bndK, slsK, fadK, fldK, iaaK, ixsK, ixaK, extK, lensK, isiK, tasK, st0K, ldpK, lenlK, caplK, mmaK, bldK, ldK, bxK, stoK, stK, blsK, mksK, appK, apzK, apsK, calvK, calvD, cvbK, csbK, sk, notSl, killOf, frzI, AV.ids, AV.ids1, AV.ids2, initR, Nat.reduceBEq, Nat.reduceAdd, Nat.reduceEqDiff, panK, retQ, retQP, resAV, reduceIte, Int.reduceToNat, Int.reduceLE, Int.reduceLT, Nat.reduceLeDiff, rdS, AV.fz, AV.fz1, AV.fz2, Nat.reduceMul, Nat.reducePow, Nat.reduceLT, AV.el, fillEl, Int.reduceBEq, Int.reduceBNe, Int.reduceAdd, Int.reduceSub, Int.reduceMul, Int.reduceGT, Int.reduceGE, decS, Int.reduceNe, Int.reduceEq, inpS, k, hk]

set_option maxRecDepth 20000 in
set_option maxHeartbeats 4000000 in
theorem xsame_3 (a b : Inp) (k : a.kind = 3) (hk : b.kind = 3) (hl : a.ids.length < 2 ^ 63) : ACall Try.prog 23 [INP a, INP b] [] fun r _ => r = .bool (sameB a b) := by
  refine acall_of is23 (by simp) ?_
  unfold cc23
  have e : sameB a b = (a.id == b.id && (a.beat == b.beat && a.ids == b.ids)) := by
    unfold sameB; rw [if_neg (by omega)]; rw [if_neg (by omega)]; rw [if_pos (by omega)]
  rw [e]
  simp -implicitDefEqProofs (maxSteps := 500000) (disch := first | decide | omega) only [↓preS, ↓reduceIte, allS, pickK, nilckK, binK, beqK, cvsK, slK, bndK, slsK, fadK, fldK, iaaK, ixsK, ixaK, extK, lensK, isiK, tasK, st0K, ldpK, lenlK, caplK, mmaK, bldK, ldK, bxK, stoK, stK, blsK, mksK, appK, apzK, apsK, calvK, calvD, cvbK, csbK, sk, notSl, killOf, frzI, AV.ids, AV.ids1, AV.ids2, initR, Nat.reduceBEq, Nat.reduceAdd, Nat.reduceEqDiff, panK, retQ, retQP, resAV, reduceIte, Int.reduceToNat, Int.reduceLE, Int.reduceLT, Nat.reduceLeDiff, rdS, AV.fz, AV.fz1, AV.fz2, Nat.reduceMul, Nat.reducePow, Nat.reduceLT, AV.el, fillEl, Int.reduceBEq, Int.reduceBNe, Int.reduceAdd, Int.reduceSub, Int.reduceMul, Int.reduceGT, Int.reduceGE, decS, Int.reduceNe, Int.reduceEq, inpS, k, hk]
  refine gK_split (fun h1 => ?_) (fun h1 => ?_)
  · simp -implicitDefEqProofs (maxSteps := 500000) (disch := first | decide | omega) only [↓preS, ↓reduceIte, allS, pickK, nilckK, binK, beqK, cvsK, slK, bndK, slsK, fadK, fldK, iaaK, ixsK, ixaK, extK, lensK, isiK, tasK, st0K, ldpK, lenlK, caplK, mmaK, bldK, ldK, bxK, stoK, stK, blsK, mksK, appK, apzK, apsK, calvK, calvD, cvbK, csbK, sk, notSl, killOf, frzI, AV.ids, AV.ids1, AV.ids2, initR, Nat.reduceBEq, Nat.reduceAdd, Nat.reduceEqDiff, panK, retQ, retQP, resAV, reduceIte, Int.reduceToNat, Int.reduceLE, Int.reduceLT, Nat.reduceLeDiff, rdS, AV.fz, AV.fz1, AV.fz2, Nat.reduceMul, Nat.reducePow, Nat.reduceLT, AV.el, fillEl, Int.reduceBEq, Int.reduceBNe, Int.reduceAdd, Int.reduceSub, Int.reduceMul, Int.reduceGT, Int.reduceGE, decS, Int.reduceNe, Int.reduceEq, inpS, h1]
    refine gK_split (fun h2 => ?_) (fun h2 => ?_)
    · simp -implicitDefEqProofs (maxSteps := 500000) (disch := first | decide | omega) only [↓preS, ↓reduceIte, allS, pickK, nilckK, binK, beqK, cvsK, slK, bndK, slsK, fadK, fldK, iaaK, ixsK, ixaK, extK, lensK, isiK, tasK, st0K, ldpK, lenlK, caplK, mmaK, bldK, ldK, bxK, stoK, stK, blsK, mksK, appK, apzK, apsK, calvK, calvD, cvbK, csbK, sk, notSl, killOf, frzI, AV.ids, AV.ids1, AV.ids2, initR, Nat.reduceBEq, Nat.reduceAdd, Nat.reduceEqDiff, panK, retQ, retQP, resAV, reduceIte, Int.reduceToNat, Int.reduceLE, Int.reduceLT, Nat.reduceLeDiff, rdS, AV.fz, AV.fz1, AV.fz2, Nat.reduceMul, Nat.reducePow, Nat.reduceLT, AV.el, fillEl, Int.reduceBEq, Int.reduceBNe, Int.reduceAdd, Int.reduceSub, Int.reduceMul, Int.reduceGT, Int.reduceGE, decS, Int.reduceNe, Int.reduceEq, inpS, h2]
      refine acK_of (FCall.of (lent := false) (xeqints_ok false false a.ids b.ids hl) (.refl rfl) rfl (by simp)) ?_
      simp -implicitDefEqProofs (maxSteps := 500000) (disch := first | decide | omega) only [↓preS, ↓reduceIte, allS, pickK, nilckK, binK, beqK, cvsK, slK, bndK, slsK, fadK, fldK, iaaK, ixsK, ixaK, extK, lensK, isiK, tasK, st0K, ldpK, lenlK, caplK, mmaK, bldK, ldK, bxK, stoK, stK, blsK, mksK, appK, apzK, apsK, calvK, calvD, cvbK, csbK, sk, notSl, killOf, frzI, AV.ids, AV.ids1, AV.ids2, initR, Nat.reduceBEq, Nat.reduceAdd, Nat.reduceEqDiff, panK, retQ, retQP, resAV, reduceIte, Int.reduceToNat, Int.reduceLE, Int.reduceLT, Nat.reduceLeDiff, rdS, AV.fz, AV.fz1, AV.fz2, Nat.reduceMul, Nat.reducePow, Nat.reduceLT, AV.el, fillEl, Int.reduceBEq, Int.reduceBNe, Int.reduceAdd, Int.reduceSub, Int.reduceMul, Int.reduceGT, Int.reduceGE, decS, Int.reduceNe, Int.reduceEq, inpS]
    · simp -implicitDefEqProofs (maxSteps := 500000) (disch := first | decide | omega) only [↓preS, ↓reduceIte, allS, pickK, nilckK, binK, beqK, cvsK, slK, bndK, slsK, fadK, fldK, iaaK, ixsK, ixaK, extK, lensK, isiK, tasK, st0K, ldpK, lenlK, caplK, mmaK, bldK, ldK, bxK, stoK, stK, blsK, mksK, appK, apzK, apsK, calvK, calvD, cvbK, csbK, sk, notSl, killOf, frzI, AV.ids, AV.ids1, AV.ids2, initR, Nat.reduceBEq, Nat.reduceAdd, Nat.reduceEqDiff, panK, retQ, retQP, resAV, reduceIte, Int.reduceToNat, Int.reduceLE, Int.reduceLT, Nat.reduceLeDiff, rdS, AV.fz, AV.fz1, AV.fz2, Nat.reduceMul, Nat.reducePow, Nat.reduceLT, AV.el, fillEl, Int.reduceBEq, Int.reduceBNe, Int.reduceAdd, Int.reduceSub, Int.reduceMul, Int.reduceGT, Int.reduceGE, decS, Int.reduceNe, Int.reduceEq, inpS, h2, Bool.false_and, Bool.and_false]
  · simp -implicitDefEqProofs (maxSteps := 500000) (disch := first | decide | omega) only [↓preS, ↓reduceIte, allS, pickK, nilckK, binK, beqK, cvsK, slK, bndK, slsK, fadK, fldK, iaaK, ixsK, ixaK, extK, lensK, isiK, tasK, st0K, ldpK, lenlK, caplK, mmaK, bldK, ldK, bxK, stoK, stK, blsK, mksK, appK, apzK, apsK, calvK, calvD, cvbK, csbK, sk, notSl, killOf, frzI, AV.ids, AV.ids1, AV.ids2, initR, Nat.reduceBEq, Nat.reduceAdd, Nat.reduceEqDiff, panK, retQ, retQP, resAV, reduceIte, Int.reduceToNat, Int.reduceLE, Int.reduceLT, Nat.reduceLeDiff, rdS, AV.fz, AV.fz1, AV.fz2, Nat.reduceMul, Nat.reducePow, Nat.reduceLT, AV.el, fillEl, Int.reduceBEq, Int.reduceBNe, Int.reduceAdd, Int.reduceSub, Int.reduceMul, Int.reduceGT, Int.reduceGE, decS, Int.reduceNe, Int.reduceEq, inpS, h1, Bool.false_and, Bool.and_false]

set_option maxRecDepth 20000 in
set_option maxHeartbeats 4000000 in
theorem xsame_5 (a b : Inp) (k : a.kind = 5) (hk : b.kind = 5) (hl : a.ids.length < 2 ^ 63) (hl2 : a.asks.length < 2 ^ 63) : ACall Try.prog 23 [INP a, INP b] [] fun r _ => r = .bool (sameB a b) := by
  refine acall_of is23 (by simp) ?_
  unfold cc23
  have e : sameB a b = (a.id == b.id && (a.beat == b.beat && (eqAsks a.asks b.asks && a.ids == b.ids))) := by
    unfold sameB; rw [if_neg (by omega)]; rw [if_neg (by omega)]; rw [if_neg (by omega)]; rw [if_neg (by omega)]; rw [if_pos (by omega)]
  rw [e]
  simp -implicitDefEqProofs (maxSteps := 500000) (disch := first | decide | omega) only [↓preS, ↓reduceIte, allS, pickK, nilckK, binK, beqK, cvsK, slK, bndK, slsK, fadK, fldK, iaaK, ixsK, ixaK, extK, lensK, isiK, tasK, st0K, ldpK, lenlK, caplK, mmaK, bldK, ldK, bxK, stoK, stK, blsK, mksK, appK, apzK, apsK, calvK, calvD, cvbK, csbK, sk, notSl, killOf, frzI, AV.ids, AV.ids1, AV.ids2, initR, Nat.reduceBEq, Nat.reduceAdd, Nat.reduceEqDiff, panK, retQ, retQP, resAV, reduceIte, Int.reduceToNat, Int.reduceLE, Int.reduceLT, Nat.reduceLeDiff, rdS, AV.fz, AV.fz1, AV.fz2, Nat.reduceMul, Nat.reducePow, Nat.reduceLT, AV.el, fillEl, Int.reduceBEq, Int.reduceBNe, Int.reduceAdd, Int.reduceSub, Int.reduceMul, Int.reduceGT, Int.reduceGE, decS, Int.reduceNe, Int.reduceEq, inpS, k, hk]
  refine gK_split (fun h1 => ?_) (fun h1 => ?_)
  · simp -implicitDefEqProofs (maxSteps := 500000) (disch := first | decide | omega) only [↓preS, ↓reduceIte, allS, pickK, nilckK, binK, beqK, cvsK, slK, bndK, slsK, fadK, fldK, iaaK, ixsK, ixaK, extK, lensK, isiK, tasK, st0K, ldpK, lenlK, caplK, mmaK, bldK, ldK, bxK, stoK, stK, blsK, mksK, appK, apzK, apsK, calvK, calvD, cvbK, csbK, sk, notSl, killOf, frzI, AV.ids, AV.ids1, AV.ids2, initR, Nat.reduceBEq, Nat.reduceAdd, Nat.reduceEqDiff, panK, retQ, retQP, resAV, reduceIte, Int.reduceToNat, Int.reduceLE, Int.reduceLT, Nat.reduceLeDiff, rdS, AV.fz, AV.fz1, AV.fz2, Nat.reduceMul, Nat.reducePow, Nat.reduceLT, AV.el, fillEl, Int.reduceBEq, Int.reduceBNe, Int.reduceAdd, Int.reduceSub, Int.reduceMul, Int.reduceGT, Int.reduceGE, decS, Int.reduceNe, Int.reduceEq, inpS, h1]
    refine gK_split (fun h2 => ?_) (fun h2 => ?_)
    · simp -implicitDefEqProofs (maxSteps := 500000) (disch := first | decide | omega) only [↓preS, ↓reduceIte, allS, pickK, nilckK, binK, beqK, cvsK, slK, bndK, slsK, fadK, fldK, iaaK, ixsK, ixaK, extK, lensK, isiK, tasK, st0K, ldpK, lenlK, caplK, mmaK, bldK, ldK, bxK, stoK, stK, blsK, mksK, appK, apzK, apsK, calvK, calvD, cvbK, csbK, sk, notSl, killOf, frzI, AV.ids, AV.ids1, AV.ids2, initR, Nat.reduceBEq, Nat.reduceAdd, Nat.reduceEqDiff, panK, retQ, retQP, resAV, reduceIte, Int.reduceToNat, Int.reduceLE, Int.reduceLT, Nat.reduceLeDiff, rdS, AV.fz, AV.fz1, AV.fz2, Nat.reduceMul, Nat.reducePow, Nat.reduceLT, AV.el, fillEl, Int.reduceBEq, Int.reduceBNe, Int.reduceAdd, Int.reduceSub, Int.reduceMul, Int.reduceGT, Int.reduceGE, decS, Int.reduceNe, Int.reduceEq, inpS, h2]
      refine acK_of (FCall.of (lent := false) (xeqasks_ok false false a.asks b.asks hl2) (.refl rfl) rfl (by simp)) ?_
      simp -implicitDefEqProofs (maxSteps := 500000) (disch := first | decide | omega) only [↓preS, ↓reduceIte, allS, pickK, nilckK, binK, beqK, cvsK, slK, bndK, slsK, fadK, fldK, iaaK, ixsK, ixaK, extK, lensK, isiK, tasK, st0K, ldpK, lenlK, caplK, mmaK, bldK, ldK, bxK, stoK, stK, blsK, mksK, appK, apzK, apsK, calvK, calvD, cvbK, csbK, sk, notSl, killOf, frzI, AV.ids, AV.ids1, AV.ids2, initR, Nat.reduceBEq, Nat.reduceAdd, Nat.reduceEqDiff, panK, retQ, retQP, resAV, reduceIte, Int.reduceToNat, Int.reduceLE, Int.reduceLT, Nat.reduceLeDiff, rdS, AV.fz, AV.fz1, AV.fz2, Nat.reduceMul, Nat.reducePow, Nat.reduceLT, AV.el, fillEl, Int.reduceBEq, Int.reduceBNe, Int.reduceAdd, Int.reduceSub, Int.reduceMul, Int.reduceGT, Int.reduceGE, decS, Int.reduceNe, Int.reduceEq, inpS]
      refine gK_split (fun h3 => ?_) (fun h3 => ?_)
      · simp -implicitDefEqProofs (maxSteps := 500000) (disch := first | decide | omega) only [↓preS, ↓reduceIte, allS, pickK, nilckK, binK, beqK, cvsK, slK, bndK, slsK, fadK, fldK, iaaK, ixsK, ixaK, extK, lensK, isiK, tasK, st0K, ldpK, lenlK, caplK, mmaK, bldK, ldK, bxK, stoK, stK, blsK, mksK, appK, apzK, apsK, calvK, calvD, cvbK, csbK, sk, notSl, killOf, frzI, AV.ids, AV.ids1, AV.ids2, initR, Nat.reduceBEq, Nat.reduceAdd, Nat.reduceEqDiff, panK, retQ, retQP, resAV, reduceIte, Int.reduceToNat, Int.reduceLE, Int.reduceLT, Nat.reduceLeDiff, rdS, AV.fz, AV.fz1, AV.fz2, Nat.reduceMul, Nat.reducePow, Nat.reduceLT, AV.el, fillEl, Int.reduceBEq, Int.reduceBNe, Int.reduceAdd, Int.reduceSub, Int.reduceMul, Int.reduceGT, Int.reduceGE, decS, Int.reduceNe, Int.reduceEq, inpS, h3]
        refine acK_of (FCall.of (lent := false) (xeqints_ok false false a.ids b.ids hl) (.refl rfl) rfl (by simp)) ?_
        simp -implicitDefEqProofs (maxSteps := 500000) (disch := first | decide | omega) only [↓preS, ↓reduceIte, allS, pickK, nilckK, binK, beqK, cvsK, slK, bndK, slsK, fadK, fldK, iaaK, ixsK, ixaK, extK, lensK, isiK, tasK, st0K, ldpK, lenlK, caplK, mmaK, bldK, ldK, bxK, stoK, stK, blsK, mksK, appK, apzK, apsK, calvK, calvD, cvbK, csbK, sk, notSl, killOf, frzI, AV.ids, AV.ids1, AV.ids2, initR, Nat.reduceBEq, Nat.reduceAdd, Nat.reduceEqDiff, panK, retQ, retQP, resAV, reduceIte, Int.reduceToNat, Int.reduceLE, Int.reduceLT, Nat.reduceLeDiff, rdS, AV.fz, AV.fz1, AV.fz2, Nat.reduceMul, Nat.reducePow, Nat.reduceLT, AV.el, fillEl, Int.reduceBEq, Int.reduceBNe, Int.reduceAdd, Int.reduceSub, Int.reduceMul, Int.reduceGT, Int.reduceGE, decS, Int.reduceNe, Int.reduceEq, inpS]
      · simp -implicitDefEqProofs (maxSteps := 500000) (disch := first | decide | omega) only [↓preS, ↓reduceIte, allS, pickK, nilckK, binK, beqK, cvsK, slK, bndK, slsK, fadK, fldK, iaaK, ixsK, ixaK, extK, lensK, isiK, tasK, st0K, ldpK, lenlK, caplK, mmaK, bldK, ldK, bxK, stoK, stK, blsK, mksK, appK, apzK, apsK, calvK, calvD, cvbK, csbK, sk, notSl, killOf, frzI, AV.ids, AV.ids1, AV.ids2, initR, Nat.reduceBEq, Nat.reduceAdd, Nat.reduceEqDiff, panK, retQ, retQP, resAV, reduceIte, Int.reduceToNat, Int.reduceLE, Int.reduceLT, Nat.reduceLeDiff, rdS, AV.fz, AV.fz1, AV.fz2, Nat.reduceMul, Nat.reducePow, Nat.reduceLT, AV.el, fillEl, Int.reduceBEq, Int.reduceBNe, Int.reduceAdd, Int.reduceSub, Int.reduceMul, Int.reduceGT, Int.reduceGE, decS, Int.reduceNe, Int.reduceEq, inpS, h3, Bool.false_and, Bool.and_false]
    · simp -implicitDefEqProofs (maxSteps := 500000) (disch := first | decide | omega) only [↓preS, ↓reduceIte, allS, pickK, nilckK, binK, beqK, cvsK, slK, bndK, slsK, fadK, fldK, iaaK, ixsK, ixaK, extK, lensK, isiK, tasK, st0K, ldpK, lenlK, caplK, mmaK, bldK, ldK, bxK, stoK, stK, blsK, mksK, appK, apzK, apsK, calvK, calvD, cvbK, csbK, sk, notSl, killOf, frzI, AV.ids, AV.ids1, AV.ids2, initR, Nat.reduceBEq, Nat.reduceAdd, Nat.reduceEqDiff, panK, retQ, retQP, resAV, reduceIte, Int.reduceToNat, Int.reduceLE, Int.reduceLT, Nat.reduceLeDiff, rdS, AV.fz, AV.fz1, AV.fz2, Nat.reduceMul, Nat.reducePow, Nat.reduceLT, AV.el, fillEl, Int.reduceBEq, Int.reduceBNe, Int.reduceAdd, Int.reduceSub, Int.reduceMul, Int.reduceGT, Int.reduceGE, decS, Int.reduceNe, Int.reduceEq, inpS, h2, Bool.false_and, Bool.and_false]
  · simp -implicitDefEqProofs (maxSteps := 500000) (disch := first | decide | omega) only [↓preS, ↓reduceIte, allS, pickK, nilckK, binK, beqK, cvsK, slK, bndK, slsK, fadK, fldK, iaaK, ixsK, ixaK, extK, lensK, isiK, tasK, st0K, ldpK, lenlK, caplK, mmaK, bldK, ldK, bxK, stoK, stK, blsK, mksK, appK, apzK, apsK, calvK, calvD, cvbK, csbK, sk, notSl, killOf, frzI, AV.ids, AV.ids1, AV.ids2, initR, Nat.reduceBEq, Nat.reduceAdd, Nat.reduceEqDiff, panK, retQ, retQP, resAV, reduceIte, Int.reduceToNat, Int.reduceLE, Int.reduceLT, Nat.reduceLeDiff, rdS, AV.fz, AV.fz1, AV.fz2, Nat.reduceMul, Nat.reducePow, Nat.reduceLT, AV.el, fillEl, Int.reduceBEq, Int.reduceBNe, Int.reduceAdd, Int.reduceSub, Int.reduceMul, Int.reduceGT, Int.reduceGE, decS, Int.reduceNe, Int.reduceEq, inpS, h1, Bool.false_and, Bool.and_false]

set_option maxRecDepth 20000 in
set_option maxHeartbeats 4000000 in
theorem xsame_6 (a b : Inp) (k : a.kind = 6) (hk : b.kind = 6) : ACall Try.prog 23 [INP a, INP b] [] fun r _ => r = .bool (sameB a b) := by
  refine acall_of is23 (by simp) ?_
  unfold cc23
  have e : sameB a b = (a.id == b.id) := by
    unfold sameB; rw [if_neg (by omega)]; rw [if_neg (by omega)]; rw [if_neg (by omega)]; rw [if_neg (by omega)]; rw [if_neg (by omega)]; rw [if_pos (by omega)]
  rw [e]
  simp -implicitDefEqProofs (maxSteps := 500000) (disch := first | decide | omega) only [↓preS, ↓reduceIte, allS, pickK, nilckK, binK, beqK, cvsK, slK, bndK, slsK, fadK, fldK, iaaK, ixsK, ixaK, extK, lensK, isiK, tasK, st0K, ldpK, lenlK, caplK, mmaK, bldK, ldK, bxK, stoK, stK, blsK, mksK, appK, apzK, apsK, calvK, calvD, cvbK, csbK, sk, notSl, killOf, frzI, AV.ids, AV.ids1, AV.ids2, initR, Nat.reduceBEq, Nat.reduceAdd, Nat.reduceEqDiff, panK, retQ, retQP, resAV, reduceIte, Int.reduceToNat, Int.reduceLE, Int.reduceLT, Nat.reduceLeDiff, rdS, AV.fz, AV.fz1, AV.fz2, Nat.reduceMul, Nat.reducePow, Nat.reduceLT, AV.el, fillEl, Int.reduceBEq, Int.reduceBNe, Int.reduceAdd, Int.reduceSub, Int.reduceMul, Int.reduceGT, Int.reduceGE, decS, Int.reduceNe, Int.reduceEq, inpS, k, hk]

set_option maxRecDepth 20000 in
set_option maxHeartbeats 4000000 in
theorem xsame_7 (a b : Inp) (k : a.kind = 7) (hk : b.kind = 7) : ACall Try.prog 23 [INP a, INP b] [] fun r _ => r = .bool (sameB a b) := by
  refine acall_of is23 (by simp) ?_
  unfold cc23
  have e : sameB a b = (a.id == b.id) := by
    unfold sameB; rw [if_neg (by omega)]; rw [if_neg (by omega)]; rw [if_neg (by omega)]; rw [if_neg (by omega)]; rw [if_neg (by omega)]; rw [if_pos (by omega)]
  rw [e]
  simp -implicitDefEqProofs (maxSteps := 500000) (disch := first | decide | omega) only [↓preS, ↓reduceIte, allS, pickK, nilckK, binK, beqK, cvsK, slK, bndK, slsK, fadK, fldK, iaaK, ixsK, ixaK, extK, lensK, isiK, tasK, st0K, ldpK, lenlK, caplK, mmaK, bldK, ldK, bxK, stoK, stK, blsK, mksK, appK, apzK, apsK, calvK, calvD, cvbK, csbK, sk, notSl, killOf, frzI, AV.ids, AV.ids1, AV.ids2, initR, Nat.reduceBEq, Nat.reduceAdd, Nat.reduceEqDiff, panK, retQ, retQP, resAV, reduceIte, Int.reduceToNat, Int.reduceLE, Int.reduceLT, Nat.reduceLeDiff, rdS, AV.fz, AV.fz1, AV.fz2, Nat.reduceMul, Nat.reducePow, Nat.reduceLT, AV.el, fillEl, Int.reduceBEq, Int.reduceBNe, Int.reduceAdd, Int.reduceSub, Int.reduceMul, Int.reduceGT, Int.reduceGE, decS, Int.reduceNe, Int.reduceEq, inpS, k, hk]

set_option maxRecDepth 20000 in
set_option maxHeartbeats 4000000 in
theorem xsame_10 (a b : Inp) (k : a.kind = 10) (hk : b.kind = 10) : ACall Try.prog 23 [INP a, INP b] [] fun r _ => r = .bool (sameB a b) := by
  refine acall_of is23 (by simp) ?_
  unfold cc23
  have e : sameB a b = (a.id == b.id) := by
    unfold sameB; rw [if_neg (by omega)]; rw [if_neg (by omega)]; rw [if_neg (by omega)]; rw [if_neg (by omega)]; rw [if_neg (by omega)]; rw [if_pos (by omega)]
  rw [e]
  simp -implicitDefEqProofs (maxSteps := 500000) (disch := first | decide | omega) only [↓preS, ↓reduceIte, allS, pickK, nilckK, binK, beqK, cvsK, slK, bndK, slsK, fadK, fldK, iaaK, ixsK, ixaK, extK, lensK, isiK, tasK, st0K, ldpK, lenlK, caplK, mmaK, bldK, ldK, bxK, stoK, stK, blsK, mksK, appK, apzK, apsK, calvK, calvD, cvbK, csbK, sk, notSl, killOf, frzI, AV.ids, AV.ids1, AV.ids2, initR, Nat.reduceBEq, Nat.reduceAdd, Nat.reduceEqDiff, panK, retQ, retQP, resAV, reduceIte, Int.reduceToNat, Int.reduceLE, Int.reduceLT, Nat.reduceLeDiff, rdS, AV.fz, AV.fz1, AV.fz2, Nat.reduceMul, Nat.reducePow, Nat.reduceLT, AV.el, fillEl, Int.reduceBEq, Int.reduceBNe, Int.reduceAdd, Int.reduceSub, Int.reduceMul, Int.reduceGT, Int.reduceGE, decS, Int.reduceNe, Int.reduceEq, inpS, k, hk]

set_option maxRecDepth 20000 in
set_option maxHeartbeats 4000000 in
theorem xsame_8 (a b : Inp) (k : a.kind = 8) (hk : b.kind = 8) : ACall Try.prog 23 [INP a, INP b] [] fun r _ => r = .bool (sameB a b) := by
  refine acall_of is23 (by simp) ?_
  unfold cc23
  have e : sameB a b = (a.n == b.n) := by
    unfold sameB; rw [if_neg (by omega)]; rw [if_neg (by omega)]; rw [if_neg (by omega)]; rw [if_neg (by omega)]; rw [if_neg (by omega)]; rw [if_neg (by omega)]; rw [if_pos (by omega)]
  rw [e]
  simp -implicitDefEqProofs (maxSteps := 500000) (disch := first | decide | omega) only [↓preS, ↓reduceIte, allS, pickK, nilckK, binK, beqK, cvsK, slK, bndK, slsK, fadK, fldK, iaaK, ixsK, ixaK, extK, lensK, isiK, tasK, st0K, ldpK, lenlK, caplK, mmaK, bldK, ldK, bxK, stoK, stK, blsK, mksK, appK, apzK, apsK, calvK, calvD, cvbK, csbK, sk, notSl, killOf, frzI, AV.ids, AV.ids1, AV.ids2, initR, Nat.reduceBEq, Nat.reduceAdd, Nat.reduceEqDiff, panK, retQ, retQP, resAV, reduceIte, Int.reduceToNat, Int.reduceLE, Int.reduceLT, Nat.reduceLeDiff, rdS, AV.fz, AV.fz1, AV.fz2, Nat.reduceMul, Nat.reducePow, Nat.reduceLT, AV.el, fillEl, Int.reduceBEq, Int.reduceBNe, Int.reduceAdd, Int.reduceSub, Int.reduceMul, Int.reduceGT, Int.reduceGE, decS, Int.reduceNe, Int.reduceEq, inpS, k, hk]

set_option maxRecDepth 20000 in
set_option maxHeartbeats 4000000 in
theorem xsame_9 (a b : Inp) (k : a.kind = 9) (hk : b.kind = 9) : ACall Try.prog 23 [INP a, INP b] [] fun r _ => r = .bool (sameB a b) := by
  refine acall_of is23 (by simp) ?_
  unfold cc23
  have e : sameB a b = (a.pId == b.pId && (a.pLab == b.pLab && (a.pFrom == b.pFrom && (a.pUntil == b.pUntil && (a.pMem == b.pMem && (a.pCor == b.pCor && a.n == b.n)))))) := by
    unfold sameB; rw [if_neg (by omega)]; rw [if_neg (by omega)]; rw [if_neg (by omega)]; rw [if_neg (by omega)]; rw [if_neg (by omega)]; rw [if_neg (by omega)]; rw [if_neg (by omega)]; rw [if_pos (by omega)]
  rw [e]
  simp -implicitDefEqProofs (maxSteps := 500000) (disch := first | decide | omega) only [↓preS, ↓reduceIte, allS, pickK, nilckK, binK, beqK, cvsK, slK, bndK, slsK, fadK, fldK, iaaK, ixsK, ixaK, extK, lensK, isiK, tasK, st0K, ldpK, lenlK, caplK, mmaK, bldK, ldK, bxK, stoK, stK, blsK, mksK, appK, apzK, apsK, calvK, calvD, cvbK, csbK, sk, notSl, killOf, frzI, AV.ids, AV.ids1, AV.ids2, initR, Nat.reduceBEq, Nat.reduceAdd, Nat.reduceEqDiff, panK, retQ, retQP, resAV, reduceIte, Int.reduceToNat, Int.reduceLE, Int.reduceLT, Nat.reduceLeDiff, rdS, AV.fz, AV.fz1, AV.fz2, Nat.reduceMul, Nat.reducePow, Nat.reduceLT, AV.el, fillEl, Int.reduceBEq, Int.reduceBNe, Int.reduceAdd, Int.reduceSub, Int.reduceMul, Int.reduceGT, Int.reduceGE, decS, Int.reduceNe, Int.reduceEq, inpS, k, hk, seqK, scEqs, scEq, Option.some.injEq, exists_eq_left']
  (try and_intros) <;> repeat' (refine gK_split (fun hb => ?_) (fun hb => ?_) <;> simp -implicitDefEqProofs (maxSteps := 500000) (disch := first | decide | omega) only [↓preS, ↓reduceIte, allS, pickK, nilckK, binK, beqK, cvsK, slK, bndK, slsK, fadK, fldK, iaaK, ixsK, ixaK, extK, lensK, isiK, tasK, st0K, ldpK, lenlK, caplK, mmaK, bldK, ldK, bxK, stoK, stK, blsK, mksK, appK, apzK, apsK, calvK, calvD, cvbK, csbK, sk, notSl, killOf, frzI, AV.ids, AV.ids1, AV.ids2, initR, Nat.reduceBEq, Nat.reduceAdd, Nat.reduceEqDiff, panK, retQ, retQP, resAV, reduceIte, Int.reduceToNat, Int.reduceLE, Int.reduceLT, Nat.reduceLeDiff, rdS, AV.fz, AV.fz1, AV.fz2, Nat.reduceMul, Nat.reducePow, Nat.reduceLT, AV.el, fillEl, Int.reduceBEq, Int.reduceBNe, Int.reduceAdd, Int.reduceSub, Int.reduceMul, Int.reduceGT, Int.reduceGE, decS, Int.reduceNe, Int.reduceEq, hb, inpS, seqK, scEqs, scEq, Option.some.injEq, exists_eq_left']) <;> simp_all

set_option maxRecDepth 20000 in
set_option maxHeartbeats 4000000 in
theorem xsame_ok (a b : Inp) (hl : a.ids.length < 2 ^ 63) (hl2 : a.asks.length < 2 ^ 63) : PCall Try.prog 23 [INP a, INP b] (.bool (sameI a b)) := by
  unfold PCall
  by_cases hk : a.kind = b.kind
  · have e : sameI a b = sameB a b := by simp [sameI, hk]
    rw [e]
    by_cases k1 : a.kind = 1
    · exact xsame_1 a b k1 (by omega)
    by_cases k2 : a.kind = 2
    · exact xsame_2 a b k2 (by omega)
    by_cases k3 : a.kind = 3
    · exact xsame_3 a b k3 (by omega) hl
    by_cases k4 : a.kind = 4
    · exact xsame_4 a b k4 (by omega)
    by_cases k5 : a.kind = 5
    · exact xsame_5 a b k5 (by omega) hl hl2
    by_cases k6 : a.kind = 6
    · exact xsame_6 a b k6 (by omega)
    by_cases k7 : a.kind = 7
    · exact xsame_7 a b k7 (by omega)
    by_cases k8 : a.kind = 8
    · exact xsame_8 a b k8 (by omega)
    by_cases k9 : a.kind = 9
    · exact xsame_9 a b k9 (by omega)
    by_cases k10 : a.kind = 10
    · exact xsame_10 a b k10 (by omega)
    have e : sameB a b = true := by
      unfold sameB
      rw [if_neg k1, if_neg k2, if_neg k3, if_neg k4, if_neg k5, if_neg (by omega), if_neg k8, if_neg k9]
    rw [e]
    refine acall_of is23 (by simp) ?_
    unfold cc23
    simp -implicitDefEqProofs (maxSteps := 500000) (disch := first | decide | omega) only [↓preS, ↓reduceIte, allS, pickK, nilckK, binK, beqK, cvsK, slK, bndK, slsK, fadK, fldK, iaaK, ixsK, ixaK, extK, lensK, isiK, tasK, st0K, ldpK, lenlK, caplK, mmaK, bldK, ldK, bxK, stoK, stK, blsK, mksK, appK, apzK, apsK, calvK, calvD, cvbK, csbK, sk, notSl, killOf, frzI, AV.ids, AV.ids1, AV.ids2, initR, Nat.reduceBEq, Nat.reduceAdd, Nat.reduceEqDiff, panK, retQ, retQP, resAV, reduceIte, Int.reduceToNat, Int.reduceLE, Int.reduceLT, Nat.reduceLeDiff, rdS, AV.fz, AV.fz1, AV.fz2, Nat.reduceMul, Nat.reducePow, Nat.reduceLT, AV.el, fillEl, Int.reduceBEq, Int.reduceBNe, Int.reduceAdd, Int.reduceSub, Int.reduceMul, Int.reduceGT, Int.reduceGE, decS, Int.reduceNe, Int.reduceEq, inpS]
  · have e : sameI a b = false := by simp [sameI, hk]
    rw [e]
    refine acall_of is23 (by simp) ?_
    unfold cc23
    simp -implicitDefEqProofs (maxSteps := 500000) (disch := first | decide | omega) only [↓preS, ↓reduceIte, allS, pickK, nilckK, binK, beqK, cvsK, slK, bndK, slsK, fadK, fldK, iaaK, ixsK, ixaK, extK, lensK, isiK, tasK, st0K, ldpK, lenlK, caplK, mmaK, bldK, ldK, bxK, stoK, stK, blsK, mksK, appK, apzK, apsK, calvK, calvD, cvbK, csbK, sk, notSl, killOf, frzI, AV.ids, AV.ids1, AV.ids2, initR, Nat.reduceBEq, Nat.reduceAdd, Nat.reduceEqDiff, panK, retQ, retQP, resAV, reduceIte, Int.reduceToNat, Int.reduceLE, Int.reduceLT, Nat.reduceLeDiff, rdS, AV.fz, AV.fz1, AV.fz2, Nat.reduceMul, Nat.reducePow, Nat.reduceLT, AV.el, fillEl, Int.reduceBEq, Int.reduceBNe, Int.reduceAdd, Int.reduceSub, Int.reduceMul, Int.reduceGT, Int.reduceGE, decS, Int.reduceNe, Int.reduceEq, inpS]
end Go.Proofs.Ytgpipheibnlkhaa
