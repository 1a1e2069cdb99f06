/- What functions of the program compute. No condition. -/
import Derived.Test.YtgpipheibnlkhaaWG
set_option linter.unusedSimpArgs false
set_option linter.unusedVariables false
namespace Go.Proofs.Ytgpipheibnlkhaa
open Go Go.Ab

set_option maxRecDepth 20000 in
set_option maxHeartbeats 4000000 in
theorem xloop19 (x : Inp) (b : List UInt8) (hb : b.length ≤ 2 ^ 20) (hl : x.asks.length ≤ 20) (Q : AE → St → Prop)
    (h : Q .normal ⟨[(1, .ref 0 0 0), (4, .own 1 1 0 (b ++ x.asks.flatMap fun c => ints (askI c)).length)], [.box (inpC x), .arr 1 ((b ++ x.asks.flatMap fun c => ints (askI c)).map U8)]⟩) (G : List AO) (y z w : AO) :
    aw Try.prog cc19L0 Q ⟨[(1, .ref 0 0 0), (4, .own 4 1 0 b.length), (5, .int .i64 0)], [.box (inpC x), y, z, w, .arr 1 (b.map U8)]⟩ := by
  unfold cc19L0
  simp -implicitDefEqProofs (maxSteps := 500000) (disch := first | decide | omega) only [↓preS, ↓reduceIte, allS, pickK, nilckK, binK, beqK, cvsK, slK, bndK, slsK, fadK, fldK, iaaK, ixsK, ixaK, extK, lensK, isiK, tasK, st0K, ldpK, lenlK, caplK, mmaK, bldK, ldK, bxK, stoK, stK, blsK, mksK, appK, apzK, apsK, calvK, calvD, cvbK, csbK, sk, notSl, killOf, frzI, AV.ids, AV.ids1, AV.ids2, initR, Nat.reduceBEq, Nat.reduceAdd, Nat.reduceEqDiff, panK, retQ, retQP, resAV, reduceIte, Int.reduceToNat, Int.reduceLE, Int.reduceLT, Nat.reduceLeDiff, rdS, AV.fz, AV.fz1, AV.fz2, Nat.reduceMul, Nat.reducePow, Nat.reduceLT, AV.el, fillEl, Int.reduceBEq, Int.reduceBNe, Int.reduceAdd, Int.reduceSub, Int.reduceMul, Int.reduceGT, Int.reduceGE, decS, Int.reduceNe, Int.reduceEq]
  refine aw_loopS (σ := Nat) (fun i => ⟨[(1, .ref 0 0 0), (4, .own 1 1 0 (b ++ (x.asks.take i).flatMap fun c => ints (askI c)).length), (5, .int .i64 (i : Int))], [.box (inpC x), .arr 1 ((b ++ (x.asks.take i).flatMap fun c => ints (askI c)).map U8)]⟩)
    (fun i => i ≤ x.asks.length) (fun i => x.asks.length - i) 0 ?_ (by simp) ?_
  · simp only [List.take_zero, List.flatMap_nil, List.append_nil]
    generalize b.map U8 = q
    generalize b.length = n
    (refine Sub.ofL [some 0, some 4] rfl (by simp) (by decide) (by simp [partL, AO.ro, AV.ro, AV.roL, names, AO.empty, SB, U8, SI, I64, STR]) (by simp [AO.bo, AV.bo, AV.boL, names]) ?_ <;> (try simp only [List.map_cons, List.map_nil, regsL, AV.ro, AV.roL, AV.bo, AV.boL, names, get_here, get_there, Nat.reduceBEq, List.getD_cons_zero, List.getD_cons_succ, List.getD_nil, and_true, true_and, Nat.reduceLT, List.length_cons, List.length_nil, Nat.reduceAdd, decide_true, Option.isSome_some, Bool.true_or, Bool.and_self, Option.isSome_none, Bool.false_or, beq_self_eq_true, wk0_self, wk0_nils]) <;> (try and_intros) <;> (first | done | rfl | exact .inl rfl | exact .inr ⟨rfl, _, _, rfl⟩ | (simp; done) | (simp; omega) | (refine .inl ?_; simp; done) | (refine .inl ?_; simp; omega)))
  intro k hk
  unfold cc19l0
  by_cases hk8 : k < x.asks.length
  · have hf : ∀ j, ((x.asks.take j).flatMap fun a => ints (askI a)).length = 56 * (x.asks.take j).length := fun j => by
      generalize x.asks.take j = l
      induction l with
      | nil => rfl
      | cons a l ih => rw [List.flatMap_cons, List.length_append, ints_len, ih, List.length_cons]; simp [askI]; omega
    have hfk := hf k
    have hk2 : (x.asks.take k).length ≤ 20 := by rw [List.length_take]; omega
    have s1 : b ++ (x.asks.take (k + 1)).flatMap (fun c => ints (askI c)) = b ++ (x.asks.take k).flatMap (fun c => ints (askI c)) ++ ints (askI (x.asks.getD k default)) := by
      rw [fmt x.asks (fun c => ints (askI c)) k hk8, ← List.append_assoc]
    have wo := fun t => xnums_ok t (b ++ (x.asks.take k).flatMap fun c => ints (askI c)) (askI (x.asks.getD k default)) (by rw [List.length_append, hfk]; simp [askI]; omega) (by simp [askI])
    rw [← s1] at wo
    have fin : ∀ w : List UInt8, w = b ++ (x.asks.take (k + 1)).flatMap (fun c => ints (askI c)) → ∀ y, ∃ j, Ab.Sub 0 ⟨[(1, .ref 0 0 0), (4, .own 4 1 0 w.length), (5, .int .i64 ((k : Int) + 1))], [.box (inpC x), .dead, .box y, .dead, .arr 1 (w.map U8)]⟩ ⟨[(1, .ref 0 0 0), (4, .own 1 1 0 (b ++ (x.asks.take j).flatMap fun c => ints (askI c)).length), (5, .int .i64 (j : Int))], [.box (inpC x), .arr 1 ((b ++ (x.asks.take j).flatMap fun c => ints (askI c)).map U8)]⟩ ∧ j ≤ x.asks.length ∧ x.asks.length - j < x.asks.length - k := by
      intro w hw y
      refine ⟨k + 1, ?_, by omega, by omega⟩
      rw [← hw]
      generalize w.map U8 = q
      generalize w.length = n
      (refine Sub.ofL [some 0, some 4] rfl (by simp) (by decide) (by simp [partL, AO.ro, AV.ro, AV.roL, names, AO.empty, SB, U8, SI, I64, STR]) (by simp [AO.bo, AV.bo, AV.boL, names]) ?_ <;> (try simp only [List.map_cons, List.map_nil, regsL, AV.ro, AV.roL, AV.bo, AV.boL, names, get_here, get_there, Nat.reduceBEq, List.getD_cons_zero, List.getD_cons_succ, List.getD_nil, and_true, true_and, Nat.reduceLT, List.length_cons, List.length_nil, Nat.reduceAdd, decide_true, Option.isSome_some, Bool.true_or, Bool.and_self, Option.isSome_none, Bool.false_or, beq_self_eq_true, wk0_self, wk0_nils]) <;> (try and_intros) <;> (first | done | rfl | exact .inl rfl | exact .inr ⟨rfl, _, _, rfl⟩ | (simp; done) | (simp; omega) | (refine .inl ?_; simp; done) | (refine .inl ?_; simp; omega)))
    generalize hu : b ++ (x.asks.take k).flatMap (fun c => ints (askI c)) = u at wo ⊢
    generalize hw : b ++ (x.asks.take (k + 1)).flatMap (fun c => ints (askI c)) = w at wo
    simp -implicitDefEqProofs (maxSteps := 500000) (disch := first | decide | omega) only [↓preS, ↓reduceIte, allS, pickK, nilckK, binK, beqK, cvsK, slK, bndK, slsK, fadK, fldK, iaaK, ixsK, ixaK, extK, lensK, isiK, tasK, st0K, ldpK, lenlK, caplK, mmaK, bldK, ldK, bxK, stoK, stK, blsK, mksK, appK, apzK, apsK, calvK, calvD, cvbK, csbK, sk, notSl, killOf, frzI, AV.ids, AV.ids1, AV.ids2, initR, Nat.reduceBEq, Nat.reduceAdd, Nat.reduceEqDiff, panK, retQ, retQP, resAV, reduceIte, Int.reduceToNat, Int.reduceLE, Int.reduceLT, Nat.reduceLeDiff, rdS, AV.fz, AV.fz1, AV.fz2, Nat.reduceMul, Nat.reducePow, Nat.reduceLT, AV.el, fillEl, Int.reduceBEq, Int.reduceBNe, Int.reduceAdd, Int.reduceSub, Int.reduceMul, Int.reduceGT, Int.reduceGE, decS, Int.reduceNe, Int.reduceEq, ASK, inpS]
    refine ⟨by omega, by omega, ?_⟩
    refine acK_arr (wo _) rfl rfl rfl ?_
    simp -implicitDefEqProofs (maxSteps := 500000) (disch := first | decide | omega) only [↓preS, ↓reduceIte, allS, pickK, nilckK, binK, beqK, cvsK, slK, bndK, slsK, fadK, fldK, iaaK, ixsK, ixaK, extK, lensK, isiK, tasK, st0K, ldpK, lenlK, caplK, mmaK, bldK, ldK, bxK, stoK, stK, blsK, mksK, appK, apzK, apsK, calvK, calvD, cvbK, csbK, sk, notSl, killOf, frzI, AV.ids, AV.ids1, AV.ids2, initR, Nat.reduceBEq, Nat.reduceAdd, Nat.reduceEqDiff, panK, retQ, retQP, resAV, reduceIte, Int.reduceToNat, Int.reduceLE, Int.reduceLT, Nat.reduceLeDiff, rdS, AV.fz, AV.fz1, AV.fz2, Nat.reduceMul, Nat.reducePow, Nat.reduceLT, AV.el, fillEl, Int.reduceBEq, Int.reduceBNe, Int.reduceAdd, Int.reduceSub, Int.reduceMul, Int.reduceGT, Int.reduceGE, decS, Int.reduceNe, Int.reduceEq]
    have f := fin w hw.symm (ASK (x.asks.getD k default)).cells
    simp only [List.length_append] at f ⊢
    exact f
  · have hk9 : k = x.asks.length := by omega
    subst hk9
    rw [List.take_length]
    generalize b ++ x.asks.flatMap (fun c => ints (askI c)) = u at h ⊢
    simp -implicitDefEqProofs (maxSteps := 500000) (disch := first | decide | omega) only [↓preS, ↓reduceIte, allS, pickK, nilckK, binK, beqK, cvsK, slK, bndK, slsK, fadK, fldK, iaaK, ixsK, ixaK, extK, lensK, isiK, tasK, st0K, ldpK, lenlK, caplK, mmaK, bldK, ldK, bxK, stoK, stK, blsK, mksK, appK, apzK, apsK, calvK, calvD, cvbK, csbK, sk, notSl, killOf, frzI, AV.ids, AV.ids1, AV.ids2, initR, Nat.reduceBEq, Nat.reduceAdd, Nat.reduceEqDiff, panK, retQ, retQP, resAV, reduceIte, Int.reduceToNat, Int.reduceLE, Int.reduceLT, Nat.reduceLeDiff, rdS, AV.fz, AV.fz1, AV.fz2, Nat.reduceMul, Nat.reducePow, Nat.reduceLT, AV.el, fillEl, Int.reduceBEq, Int.reduceBNe, Int.reduceAdd, Int.reduceSub, Int.reduceMul, Int.reduceGT, Int.reduceGE, decS, Int.reduceNe, Int.reduceEq, inpS]
    exact h
end Go.Proofs.Ytgpipheibnlkhaa
