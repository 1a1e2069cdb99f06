/- What functions of the program compute. No condition. -/
import Derived.Test.YtgpipheibnlkhaaWB2
set_option linter.unusedSimpArgs false
set_option linter.unusedVariables false
namespace Go.Proofs.Ytgpipheibnlkhaa
open Go Go.Ab

set_option maxRecDepth 20000 in
set_option maxHeartbeats 4000000 in
theorem parseO_raw (b : List UInt8) (hb : b.length ≤ 2 ^ 40) : ACall Try.prog 27 [SB b] [] (PostO (parsO ⟨b, 0⟩)) := by
  refine acallR_of isR27 (by simp) ?_
  unfold cc27
  simp -implicitDefEqProofs (maxSteps := 500000) (disch := first | decide | omega) only [↓preS, ↓reduceIte, allS, Nat.reduceBEq, Nat.reduceAdd, Nat.reduceEqDiff, reduceIte, Int.reduceToNat, Int.reduceLE, Int.reduceLT, Nat.reduceLeDiff, Nat.reduceMul, Nat.reducePow, Nat.reduceLT, Int.reduceBEq, Int.reduceBNe, Int.reduceAdd, Int.reduceSub, Int.reduceMul, Int.reduceGT, Int.reduceGE, decS, Int.reduceNe, Int.reduceEq, SB]
  refine acK_new (new_ok false b hb) rfl rfl ?_
  rintro y G ⟨rfl, rfl⟩
  simp -implicitDefEqProofs (maxSteps := 500000) (disch := first | decide | omega) only [↓preS, ↓reduceIte, allS, Nat.reduceBEq, Nat.reduceAdd, Nat.reduceEqDiff, reduceIte, Int.reduceToNat, Int.reduceLE, Int.reduceLT, Nat.reduceLeDiff, Nat.reduceMul, Nat.reducePow, Nat.reduceLT, Int.reduceBEq, Int.reduceBNe, Int.reduceAdd, Int.reduceSub, Int.reduceMul, Int.reduceGT, Int.reduceGE, decS, Int.reduceNe, Int.reduceEq, AV.ren, AO.ren, AV.renL, up, RB]
  have l1 := errO_le ⟨b, 0⟩
  have l0 := intR_le ⟨b, 0⟩
  simp only at l0 l1
  rw [parsO_rest]
  refine acK_rd (int_read ⟨b, 0⟩ (by simp only; omega)) rfl (fun _ => rfl) (fun _ => rfl) rfl (fun _ => rfl) (fun _ => rfl) rfl ?_
  have fl : RB (intR ⟨b, 0⟩).2.b (if (intR ⟨b, 0⟩).2.e = 0 then 1 else (intR ⟨b, 0⟩).2.e) = (failR (intR ⟨b, 0⟩).2 1).obj := rfl
  by_cases h : (intR ⟨b, 0⟩).1 < 0 ∨ 19 < (intR ⟨b, 0⟩).1
  · have e : errO ⟨b, 0⟩ = ((intR ⟨b, 0⟩).1, failR (intR ⟨b, 0⟩).2 1) := by unfold errO; rw [if_pos h]
    rw [e] at l1 ⊢
    simp only at l1
    by_cases h1 : (intR ⟨b, 0⟩).1 < 0
    · simp -implicitDefEqProofs (maxSteps := 500000) (disch := first | decide | omega) only [↓preS, ↓reduceIte, allS, Nat.reduceBEq, Nat.reduceAdd, Nat.reduceEqDiff, reduceIte, Int.reduceToNat, Int.reduceLE, Int.reduceLT, Nat.reduceLeDiff, Nat.reduceMul, Nat.reducePow, Nat.reduceLT, Int.reduceBEq, Int.reduceBNe, Int.reduceAdd, Int.reduceSub, Int.reduceMul, Int.reduceGT, Int.reduceGE, decS, Int.reduceNe, Int.reduceEq]
      refine acK_rd (fail_ok (intR ⟨b, 0⟩).2.b (intR ⟨b, 0⟩).2.e 1) rfl (fun _ => rfl) (fun _ => rfl) rfl (fun _ => rfl) (fun _ => rfl) rfl ?_
      rw [fl]
      simp -implicitDefEqProofs (maxSteps := 500000) (disch := first | decide | omega) only [↓preS, ↓reduceIte, allS, Nat.reduceBEq, Nat.reduceAdd, Nat.reduceEqDiff, reduceIte, Int.reduceToNat, Int.reduceLE, Int.reduceLT, Nat.reduceLeDiff, Nat.reduceMul, Nat.reducePow, Nat.reduceLT, Int.reduceBEq, Int.reduceBNe, Int.reduceAdd, Int.reduceSub, Int.reduceMul, Int.reduceGT, Int.reduceGE, decS, Int.reduceNe, Int.reduceEq]
      exact tail27 _ _ (by omega)
    · simp -implicitDefEqProofs (maxSteps := 500000) (disch := first | decide | omega) only [↓preS, ↓reduceIte, allS, Nat.reduceBEq, Nat.reduceAdd, Nat.reduceEqDiff, reduceIte, Int.reduceToNat, Int.reduceLE, Int.reduceLT, Nat.reduceLeDiff, Nat.reduceMul, Nat.reducePow, Nat.reduceLT, Int.reduceBEq, Int.reduceBNe, Int.reduceAdd, Int.reduceSub, Int.reduceMul, Int.reduceGT, Int.reduceGE, decS, Int.reduceNe, Int.reduceEq]
      refine acK_rd (fail_ok (intR ⟨b, 0⟩).2.b (intR ⟨b, 0⟩).2.e 1) rfl (fun _ => rfl) (fun _ => rfl) rfl (fun _ => rfl) (fun _ => rfl) rfl ?_
      rw [fl]
      simp -implicitDefEqProofs (maxSteps := 500000) (disch := first | decide | omega) only [↓preS, ↓reduceIte, allS, Nat.reduceBEq, Nat.reduceAdd, Nat.reduceEqDiff, reduceIte, Int.reduceToNat, Int.reduceLE, Int.reduceLT, Nat.reduceLeDiff, Nat.reduceMul, Nat.reducePow, Nat.reduceLT, Int.reduceBEq, Int.reduceBNe, Int.reduceAdd, Int.reduceSub, Int.reduceMul, Int.reduceGT, Int.reduceGE, decS, Int.reduceNe, Int.reduceEq]
      exact tail27 _ _ (by omega)
  · have e : errO ⟨b, 0⟩ = ((intR ⟨b, 0⟩).1, (intR ⟨b, 0⟩).2) := by unfold errO; rw [if_neg h]
    rw [e]
    simp -implicitDefEqProofs (maxSteps := 500000) (disch := first | decide | omega) only [↓preS, ↓reduceIte, allS, Nat.reduceBEq, Nat.reduceAdd, Nat.reduceEqDiff, reduceIte, Int.reduceToNat, Int.reduceLE, Int.reduceLT, Nat.reduceLeDiff, Nat.reduceMul, Nat.reducePow, Nat.reduceLT, Int.reduceBEq, Int.reduceBNe, Int.reduceAdd, Int.reduceSub, Int.reduceMul, Int.reduceGT, Int.reduceGE, decS, Int.reduceNe, Int.reduceEq]
    exact tail27 _ _ (by omega)

theorem parseO_ok (b : List UInt8) (hb : b.length ≤ 2 ^ 40) : PCall Try.prog 27 [SB b] (parRO (parseO b)) := by
  have k1 : ACall Try.prog 27 [SB b] [] fun y G => y = .tup [.agg [.int .i64 (parseO b).1.err, .own 0 9 0 (parseO b).1.conts.length, .own 1 1 0 (parseO b).1.ids.length, .own 2 1 0 (parseO b).1.gone.length, .int .i64 (parseO b).1.n], .int .i64 (parseO b).2] ∧
      G = [.arr 9 ((parseO b).1.conts.map CONT), .arr 1 ((parseO b).1.ids.map I64), .arr 1 ((parseO b).1.gone.map I64)] := by
    refine (parseO_raw b hb).sub ?_
    rintro y G (⟨e, h1, rfl⟩ | ⟨a, c, d, h1, rfl, rfl⟩)
    · have h2 : parseO b = (zeroO, e) := h1
      rw [h2]
      refine ⟨_, _, ?_, rfl, rfl⟩
      simp only [zeroO, List.map_nil, List.length_nil]
      (refine Sub.ofL [none, none, none] rfl (by simp) (by decide) (by simp [partL, AO.ro, AV.ro, AV.roL, names, AO.empty, SB, U8, SI, I64, STR]) (by simp [AO.bo, AV.bo, AV.boL, names]) ?_ <;> (try simp only [List.map_cons, List.map_nil, regsL, AV.ro, AV.roL, AV.bo, AV.boL, names, get_here, get_there, Nat.reduceBEq, List.getD_cons_zero, List.getD_cons_succ, List.getD_nil, and_true, true_and, Nat.reduceLT, List.length_cons, List.length_nil, Nat.reduceAdd, decide_true, Option.isSome_some, Bool.true_or, Bool.and_self, Option.isSome_none, Bool.false_or, beq_self_eq_true, wk0_self, wk0_nils]) <;> (try and_intros) <;> (first | done | rfl | exact .inl rfl | exact .inr ⟨rfl, _, _, rfl⟩ | (simp; done) | (simp; omega) | (refine .inl ?_; simp; done) | (refine .inl ?_; simp; omega)))
    · have h2 : parseO b = ((parsO ⟨b, 0⟩).1, 0) := h1
      rw [h2]
      refine ⟨_, _, ?_, rfl, rfl⟩
      generalize (parsO ⟨b, 0⟩).1 = o
      generalize h3 : o.conts.map CONT = q3
      generalize h4 : o.ids.map I64 = q4
      generalize h5 : o.gone.map I64 = q5
      (refine Sub.ofL [some 3, some 4, some 5] rfl (by simp) (by decide) (by simp [partL, AO.ro, AV.ro, AV.roL, names, AO.empty, SB, U8, SI, I64, STR]) (by simp [AO.bo, AV.bo, AV.boL, names]) ?_ <;> (try simp only [List.map_cons, List.map_nil, regsL, AV.ro, AV.roL, AV.bo, AV.boL, names, get_here, get_there, Nat.reduceBEq, List.getD_cons_zero, List.getD_cons_succ, List.getD_nil, and_true, true_and, Nat.reduceLT, List.length_cons, List.length_nil, Nat.reduceAdd, decide_true, Option.isSome_some, Bool.true_or, Bool.and_self, Option.isSome_none, Bool.false_or, beq_self_eq_true, wk0_self, wk0_nils]) <;> (try and_intros) <;> (first | done | rfl | exact .inl rfl | exact .inr ⟨rfl, _, _, rfl⟩ | (simp; done) | (simp; omega) | (refine .inl ?_; simp; done) | (refine .inl ?_; simp; omega)))
  generalize parseO b = q at k1 ⊢
  obtain ⟨o, e⟩ := q
  have k2 : ACall Try.prog 27 [SB b] [] fun y G => y = .tup [.agg [.int .i64 o.err, .sl false 9 (o.conts.map CONT), .own 1 1 0 o.ids.length, .own 2 1 0 o.gone.length, .int .i64 o.n], .int .i64 e] ∧ G = [.dead, .arr 1 (o.ids.map I64), .arr 1 (o.gone.map I64)] := by
    refine k1.frz ?_
    rintro y G ⟨rfl, rfl⟩
    refine ⟨0, 9, _, rfl, ?_, rfl⟩
    simp [AV.fz, AV.fz2, AV.fz1]
    rw [← List.map_take, List.take_length]
  have k3 : ACall Try.prog 27 [SB b] [] fun y G => y = .tup [.agg [.int .i64 o.err, .sl false 9 (o.conts.map CONT), .sl false 1 (o.ids.map I64), .own 2 1 0 o.gone.length, .int .i64 o.n], .int .i64 e] ∧ G = [.dead, .dead, .arr 1 (o.gone.map I64)] := by
    refine k2.frz ?_
    rintro y G ⟨rfl, rfl⟩
    refine ⟨1, 1, _, rfl, ?_, rfl⟩
    simp [AV.fz, AV.fz2, AV.fz1]
    rw [← List.map_take, List.take_length]
  have k4 : ACall Try.prog 27 [SB b] [] fun y G => y = parRO (o, e) := by
    refine k3.frz ?_
    rintro y G ⟨rfl, rfl⟩
    refine ⟨2, 1, _, rfl, ?_⟩
    simp [AV.fz, AV.fz2, AV.fz1, parRO, OUT, outC]
    rw [← List.map_take, List.take_length]
  exact k4
end Go.Proofs.Ytgpipheibnlkhaa
