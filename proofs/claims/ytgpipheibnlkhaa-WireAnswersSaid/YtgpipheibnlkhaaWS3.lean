/- What functions of the program compute. No condition. -/
import Derived.Test.YtgpipheibnlkhaaWS2
import Derived.Test.YtgpipheibnlkhaaWH4
import Derived.Test.YtgpipheibnlkhaaWF0
import Derived.Test.YtgpipheibnlkhaaWT3
import Derived.Test.YtgpipheibnlkhaaR7L8
set_option linter.unusedSimpArgs false
set_option linter.unusedVariables false
namespace Go.Proofs.Ytgpipheibnlkhaa
open Go Go.Ab

theorem fewO_spec {o : Out} (h : fewO o = true) : o.conts.length ≤ 60 ∧ o.ids.length ≤ 60 ∧ o.gone.length ≤ 60 := by
  simp only [fewO, Bool.and_eq_true, decide_eq_true_eq] at h
  exact ⟨h.1.1, h.1.2, h.2⟩
theorem goodO_wrong {o : Out} (h : fewO o = true) : wrongO (goodO o) = 0 := by
  obtain ⟨f1, f2, f3⟩ := fewO_spec h
  have we := win_rng o.err 20 (by omega)
  have hm : manyO (goodO o) = false := by
    have e : manyO (goodO o) = (decide (300 < o.conts.length) || decide (300 < o.ids.length) || decide (300 < o.gone.length)) := rfl
    rw [e, decide_eq_false (by omega), decide_eq_false (by omega), decide_eq_false (by omega)]
    rfl
  unfold wrongO
  rw [if_neg (by simp only [goodO]; omega), hm]
  rfl
theorem sameO_self (o : Out) : sameO o o = true := by simp [sameO]

theorem parseO_len (b : List UInt8) : Out.Len (parseO b).1 := by
  have hz : Out.Len zeroO := ⟨by simp [zeroO], by simp [zeroO], by simp [zeroO]⟩
  unfold parseO doneO
  split
  · exact hz
  split
  · exact hz
  obtain ⟨n, h1, h2⟩ := numO_rng (errO ⟨b, 0⟩).2
  have h62 : (2 : Nat) ^ 62 < 2 ^ 63 := by omega
  unfold parsO
  simp only
  refine ⟨?_, Nat.lt_trans (intsR_len _) h62, Nat.lt_trans (intsR_len _) h62⟩
  show (contsN _ _).1.length < _
  rw [contsN_len]
  omega
theorem encO_le39 {o : Out} (h : wrongO o = 0) : (encO o).length ≤ 2 ^ 39 := by have := encO_le h; omega

set_option maxRecDepth 20000 in
set_option maxHeartbeats 8000000 in
theorem answers_law (x : Out) (at_ : List Int) (bs : List UInt8) (cut : Int) (raw : List UInt8) (hr0 : raw.length < 2 ^ 63) : ACall Try.prog 8 [OUT x, SI at_, SB bs, .int .i64 cut, SB raw] [] fun y _ => y = .bool true := by
  refine acall_of is8 (by simp) ?_
  unfold cc8
  simp -implicitDefEqProofs (maxSteps := 500000) (disch := first | decide | omega) only [↓preS, ↓reduceIte, allS, Nat.reduceBEq, Nat.reduceAdd, Nat.reduceEqDiff, reduceIte, Int.reduceToNat, Int.reduceLE, Int.reduceLT, Nat.reduceLeDiff, Nat.reduceMul, Nat.reducePow, Nat.reduceLT, Int.reduceBEq, Int.reduceBNe, Int.reduceAdd, Int.reduceSub, Int.reduceMul, Int.reduceGT, Int.reduceGE, decS, Int.reduceNe, Int.reduceEq, outS]
  refine acK_of (FCall.of (lent := false) (known_ok) (.refl rfl) rfl (by simp)) ?_
  simp -implicitDefEqProofs (maxSteps := 500000) (disch := first | decide | omega) only [↓preS, ↓reduceIte, allS, Nat.reduceBEq, Nat.reduceAdd, Nat.reduceEqDiff, reduceIte, Int.reduceToNat, Int.reduceLE, Int.reduceLT, Nat.reduceLeDiff, Nat.reduceMul, Nat.reducePow, Nat.reduceLT, Int.reduceBEq, Int.reduceBNe, Int.reduceAdd, Int.reduceSub, Int.reduceMul, Int.reduceGT, Int.reduceGE, decS, Int.reduceNe, Int.reduceEq, outS]
  refine acK_of (FCall.of (lent := false) (fewO_ok x) (.refl rfl) rfl (by simp)) ?_
  simp -implicitDefEqProofs (maxSteps := 500000) (disch := first | decide | omega) only [↓preS, ↓reduceIte, allS, Nat.reduceBEq, Nat.reduceAdd, Nat.reduceEqDiff, reduceIte, Int.reduceToNat, Int.reduceLE, Int.reduceLT, Nat.reduceLeDiff, Nat.reduceMul, Nat.reducePow, Nat.reduceLT, Int.reduceBEq, Int.reduceBNe, Int.reduceAdd, Int.reduceSub, Int.reduceMul, Int.reduceGT, Int.reduceGE, decS, Int.reduceNe, Int.reduceEq, outS]
  cases hf : fewO x
  · simp -implicitDefEqProofs (maxSteps := 500000) (disch := first | decide | omega) only [↓preS, ↓reduceIte, allS, Nat.reduceBEq, Nat.reduceAdd, Nat.reduceEqDiff, reduceIte, Int.reduceToNat, Int.reduceLE, Int.reduceLT, Nat.reduceLeDiff, Nat.reduceMul, Nat.reducePow, Nat.reduceLT, Int.reduceBEq, Int.reduceBNe, Int.reduceAdd, Int.reduceSub, Int.reduceMul, Int.reduceGT, Int.reduceGE, decS, Int.reduceNe, Int.reduceEq, SB]
  by_cases hr : 500 < raw.length
  · simp -implicitDefEqProofs (maxSteps := 500000) (disch := first | decide | omega) only [↓preS, ↓reduceIte, allS, Nat.reduceBEq, Nat.reduceAdd, Nat.reduceEqDiff, reduceIte, Int.reduceToNat, Int.reduceLE, Int.reduceLT, Nat.reduceLeDiff, Nat.reduceMul, Nat.reducePow, Nat.reduceLT, Int.reduceBEq, Int.reduceBNe, Int.reduceAdd, Int.reduceSub, Int.reduceMul, Int.reduceGT, Int.reduceGE, decS, Int.reduceNe, Int.reduceEq, SB]
  simp -implicitDefEqProofs (maxSteps := 500000) (disch := first | decide | omega) only [↓preS, ↓reduceIte, allS, Nat.reduceBEq, Nat.reduceAdd, Nat.reduceEqDiff, reduceIte, Int.reduceToNat, Int.reduceLE, Int.reduceLT, Nat.reduceLeDiff, Nat.reduceMul, Nat.reducePow, Nat.reduceLT, Int.reduceBEq, Int.reduceBNe, Int.reduceAdd, Int.reduceSub, Int.reduceMul, Int.reduceGT, Int.reduceGE, decS, Int.reduceNe, Int.reduceEq, outS, SB]
  refine acK_of (FCall.of (lent := false) (goodO_ok x) (.refl rfl) rfl (by simp)) ?_
  have hw := goodO_wrong hf
  have c := xoutput_ok (goodO x)
  rw [show outR (goodO x) = .tup [SB (encO (goodO x)), .int .i64 0] from if_pos hw] at c
  have hl := encO_le39 hw
  generalize goodO x = g at c hl
  simp -implicitDefEqProofs (maxSteps := 500000) (disch := first | decide | omega) only [↓preS, ↓reduceIte, allS, Nat.reduceBEq, Nat.reduceAdd, Nat.reduceEqDiff, reduceIte, Int.reduceToNat, Int.reduceLE, Int.reduceLT, Nat.reduceLeDiff, Nat.reduceMul, Nat.reducePow, Nat.reduceLT, Int.reduceBEq, Int.reduceBNe, Int.reduceAdd, Int.reduceSub, Int.reduceMul, Int.reduceGT, Int.reduceGE, decS, Int.reduceNe, Int.reduceEq, outS]
  refine acK_of (FCall.of (lent := false) (c) (.refl rfl) rfl (by simp)) ?_
  generalize encO g = b at hl
  simp -implicitDefEqProofs (maxSteps := 500000) (disch := first | decide | omega) only [↓preS, ↓reduceIte, allS, Nat.reduceBEq, Nat.reduceAdd, Nat.reduceEqDiff, reduceIte, Int.reduceToNat, Int.reduceLE, Int.reduceLT, Nat.reduceLeDiff, Nat.reduceMul, Nat.reducePow, Nat.reduceLT, Int.reduceBEq, Int.reduceBNe, Int.reduceAdd, Int.reduceSub, Int.reduceMul, Int.reduceGT, Int.reduceGE, decS, Int.reduceNe, Int.reduceEq, outS, SB, SI]
  refine acK_new ((bend_ok b at_ bs cut raw hl (by omega)).drop (Post' := fun y G => PostB b raw y G ∧ G = []) ?_) rfl rfl ?_
  · rintro y G ⟨r0, r1, rfl, h1, h2⟩
    exact ⟨[], G, rfl, Nat.le_refl _, rfl, (fun o ho => by cases ho), ⟨r0, r1, rfl, h1, h2⟩, rfl⟩
  rintro y G ⟨⟨r0, r1, rfl, h1, h2⟩, rfl⟩
  have er : ∀ ρ, (rows3 r0 r1 raw).ren ρ = .sl false 1 ([r0, r1, raw].map SB) := fun _ => rfl
  have hrow : ∀ k : Nat, (([r0, r1, raw] : List (List UInt8)).getD k default).length ≤ 2 ^ 40 := by
    intro k
    match k with
    | 0 => show r0.length ≤ _; omega
    | 1 => show r1.length ≤ _; omega
    | 2 => show raw.length ≤ _; omega
    | k + 3 => exact Nat.zero_le _
  have hl3 : ([r0, r1, raw] : List (List UInt8)).length = 3 := rfl
  generalize ([r0, r1, raw] : List (List UInt8)) = rows at er hrow hl3
  rw [er]
  simp -implicitDefEqProofs (maxSteps := 500000) (disch := first | decide | omega) only [↓preS, ↓reduceIte, allS, Nat.reduceBEq, Nat.reduceAdd, Nat.reduceEqDiff, reduceIte, Int.reduceToNat, Int.reduceLE, Int.reduceLT, Nat.reduceLeDiff, Nat.reduceMul, Nat.reducePow, Nat.reduceLT, Int.reduceBEq, Int.reduceBNe, Int.reduceAdd, Int.reduceSub, Int.reduceMul, Int.reduceGT, Int.reduceGE, decS, Int.reduceNe, Int.reduceEq]
  unfold cc8L0
  simp -implicitDefEqProofs (maxSteps := 500000) (disch := first | decide | omega) only [↓preS, ↓reduceIte, allS, Nat.reduceBEq, Nat.reduceAdd, Nat.reduceEqDiff, reduceIte, Int.reduceToNat, Int.reduceLE, Int.reduceLT, Nat.reduceLeDiff, Nat.reduceMul, Nat.reducePow, Nat.reduceLT, Int.reduceBEq, Int.reduceBNe, Int.reduceAdd, Int.reduceSub, Int.reduceMul, Int.reduceGT, Int.reduceGE, decS, Int.reduceNe, Int.reduceEq]
  refine aw_loopS (σ := Nat) (fun i => ⟨[(13, .sl false 1 (rows.map SB)), (14, .int .i64 (i : Int))], []⟩) (fun i => i ≤ 3) (fun i => 3 - i) 0 ?_ (by simp) ?_
  · (refine Sub.ofL [] rfl (by simp) (by decide) trivial rfl ?_ <;> (try simp only [List.map_cons, List.map_nil, regsL, AV.ro, AV.roL, AV.bo, AV.boL, names, get_here, get_there, Nat.reduceBEq, List.getD_cons_zero, List.getD_cons_succ, List.getD_nil, and_true, true_and, Nat.reduceLT, List.length_cons, List.length_nil, Nat.reduceAdd, decide_true, Option.isSome_some, Bool.true_or, Bool.and_self, Option.isSome_none, Bool.false_or, beq_self_eq_true, wk0_self, wk0_nils]) <;> (try and_intros) <;> (first | done | rfl | exact .inl rfl | exact .inr ⟨rfl, _, _, rfl⟩ | (simp; done) | (simp; omega) | (refine .inl ?_; simp; done) | (refine .inl ?_; simp; omega)))
  intro k hk
  unfold cc8l0
  by_cases hk3 : k < 3
  · have hk4 : (k : Int) < 3 := by omega
    have hq := hrow k
    generalize hrk : rows.getD k default = r at hq
    have d1 := parseO_ok r hq
    have d2 := xparseO_ok r hq
    have hv := @parseO_inv r
    have n1 := parseO_len r
    generalize parseO r = q at d1 d2 hv n1
    obtain ⟨p, e⟩ := q
    unfold parRO at d1 d2
    simp only at d1 d2 hv n1
    have d3 := xsameO_ok p p n1
    rw [sameO_self] at d3
    have d4 := output_ok p
    simp -implicitDefEqProofs (maxSteps := 500000) (disch := first | decide | omega) only [↓preS, ↓reduceIte, allS, Nat.reduceBEq, Nat.reduceAdd, Nat.reduceEqDiff, reduceIte, Int.reduceToNat, Int.reduceLE, Int.reduceLT, Nat.reduceLeDiff, Nat.reduceMul, Nat.reducePow, Nat.reduceLT, Int.reduceBEq, Int.reduceBNe, Int.reduceAdd, Int.reduceSub, Int.reduceMul, Int.reduceGT, Int.reduceGE, decS, Int.reduceNe, Int.reduceEq, hrk, SB]
    refine ⟨by omega, by omega, ⟨by omega, by omega⟩, ?_⟩
    refine acK_of (FCall.of (lent := false) (d1) (.refl rfl) rfl (by simp)) ?_
    simp -implicitDefEqProofs (maxSteps := 500000) (disch := first | decide | omega) only [↓preS, ↓reduceIte, allS, Nat.reduceBEq, Nat.reduceAdd, Nat.reduceEqDiff, reduceIte, Int.reduceToNat, Int.reduceLE, Int.reduceLT, Nat.reduceLeDiff, Nat.reduceMul, Nat.reducePow, Nat.reduceLT, Int.reduceBEq, Int.reduceBNe, Int.reduceAdd, Int.reduceSub, Int.reduceMul, Int.reduceGT, Int.reduceGE, decS, Int.reduceNe, Int.reduceEq, hrk, SB, outS, List.append_nil]
    refine ⟨by omega, by omega, ?_⟩
    refine acK_of (FCall.of (lent := false) (d2) (.refl rfl) rfl (by simp)) ?_
    simp -implicitDefEqProofs (maxSteps := 500000) (disch := first | decide | omega) only [↓preS, ↓reduceIte, allS, Nat.reduceBEq, Nat.reduceAdd, Nat.reduceEqDiff, reduceIte, Int.reduceToNat, Int.reduceLE, Int.reduceLT, Nat.reduceLeDiff, Nat.reduceMul, Nat.reducePow, Nat.reduceLT, Int.reduceBEq, Int.reduceBNe, Int.reduceAdd, Int.reduceSub, Int.reduceMul, Int.reduceGT, Int.reduceGE, decS, Int.reduceNe, Int.reduceEq, hrk, SB, outS, List.append_nil]
    refine acK_of (FCall.of (lent := false) (d3) (.refl rfl) rfl (by simp)) ?_
    simp -implicitDefEqProofs (maxSteps := 500000) (disch := first | decide | omega) only [↓preS, ↓reduceIte, allS, Nat.reduceBEq, Nat.reduceAdd, Nat.reduceEqDiff, reduceIte, Int.reduceToNat, Int.reduceLE, Int.reduceLT, Nat.reduceLeDiff, Nat.reduceMul, Nat.reducePow, Nat.reduceLT, Int.reduceBEq, Int.reduceBNe, Int.reduceAdd, Int.reduceSub, Int.reduceMul, Int.reduceGT, Int.reduceGE, decS, Int.reduceNe, Int.reduceEq, outS, beq_self_eq_true, bne_self_eq_false, Bool.not_true, Bool.and_self]
    by_cases he : e = 0
    · obtain ⟨v1, v2⟩ := hv he
      rw [show outR p = .tup [SB (encO p), .int .i64 0] from if_pos v2, v1] at d4
      simp -implicitDefEqProofs (maxSteps := 500000) (disch := first | decide | omega) only [↓preS, ↓reduceIte, allS, Nat.reduceBEq, Nat.reduceAdd, Nat.reduceEqDiff, reduceIte, Int.reduceToNat, Int.reduceLE, Int.reduceLT, Nat.reduceLeDiff, Nat.reduceMul, Nat.reducePow, Nat.reduceLT, Int.reduceBEq, Int.reduceBNe, Int.reduceAdd, Int.reduceSub, Int.reduceMul, Int.reduceGT, Int.reduceGE, decS, Int.reduceNe, Int.reduceEq, outS]
      refine acK_of (FCall.of (lent := false) (d4) (.refl rfl) rfl (by simp)) ?_
      simp -implicitDefEqProofs (maxSteps := 500000) (disch := first | decide | omega) only [↓preS, ↓reduceIte, allS, Nat.reduceBEq, Nat.reduceAdd, Nat.reduceEqDiff, reduceIte, Int.reduceToNat, Int.reduceLE, Int.reduceLT, Nat.reduceLeDiff, Nat.reduceMul, Nat.reducePow, Nat.reduceLT, Int.reduceBEq, Int.reduceBNe, Int.reduceAdd, Int.reduceSub, Int.reduceMul, Int.reduceGT, Int.reduceGE, decS, Int.reduceNe, Int.reduceEq, hrk, SB]
      refine ⟨by omega, by omega, k + 1, ?_, by omega, by omega⟩
      (refine Sub.ofL [] rfl (by simp) (by decide) trivial rfl ?_ <;> (try simp only [List.map_cons, List.map_nil, regsL, AV.ro, AV.roL, AV.bo, AV.boL, names, get_here, get_there, Nat.reduceBEq, List.getD_cons_zero, List.getD_cons_succ, List.getD_nil, and_true, true_and, Nat.reduceLT, List.length_cons, List.length_nil, Nat.reduceAdd, decide_true, Option.isSome_some, Bool.true_or, Bool.and_self, Option.isSome_none, Bool.false_or, beq_self_eq_true, wk0_self, wk0_nils]) <;> (try and_intros) <;> (first | done | rfl | exact .inl rfl | exact .inr ⟨rfl, _, _, rfl⟩ | (simp; done) | (simp; omega) | (refine .inl ?_; simp; done) | (refine .inl ?_; simp; omega)))
    · simp -implicitDefEqProofs (maxSteps := 500000) (disch := first | decide | omega) only [↓preS, ↓reduceIte, allS, Nat.reduceBEq, Nat.reduceAdd, Nat.reduceEqDiff, reduceIte, Int.reduceToNat, Int.reduceLE, Int.reduceLT, Nat.reduceLeDiff, Nat.reduceMul, Nat.reducePow, Nat.reduceLT, Int.reduceBEq, Int.reduceBNe, Int.reduceAdd, Int.reduceSub, Int.reduceMul, Int.reduceGT, Int.reduceGE, decS, Int.reduceNe, Int.reduceEq]
      refine ⟨k + 1, ?_, by omega, by omega⟩
      (refine Sub.ofL [] rfl (by simp) (by decide) trivial rfl ?_ <;> (try simp only [List.map_cons, List.map_nil, regsL, AV.ro, AV.roL, AV.bo, AV.boL, names, get_here, get_there, Nat.reduceBEq, List.getD_cons_zero, List.getD_cons_succ, List.getD_nil, and_true, true_and, Nat.reduceLT, List.length_cons, List.length_nil, Nat.reduceAdd, decide_true, Option.isSome_some, Bool.true_or, Bool.and_self, Option.isSome_none, Bool.false_or, beq_self_eq_true, wk0_self, wk0_nils]) <;> (try and_intros) <;> (first | done | rfl | exact .inl rfl | exact .inr ⟨rfl, _, _, rfl⟩ | (simp; done) | (simp; omega) | (refine .inl ?_; simp; done) | (refine .inl ?_; simp; omega)))
  · have : ¬ (k : Int) < 3 := by omega
    simp -implicitDefEqProofs (maxSteps := 500000) (disch := first | decide | omega) only [↓preS, ↓reduceIte, allS, Nat.reduceBEq, Nat.reduceAdd, Nat.reduceEqDiff, reduceIte, Int.reduceToNat, Int.reduceLE, Int.reduceLT, Nat.reduceLeDiff, Nat.reduceMul, Nat.reducePow, Nat.reduceLT, Int.reduceBEq, Int.reduceBNe, Int.reduceAdd, Int.reduceSub, Int.reduceMul, Int.reduceGT, Int.reduceGE, decS, Int.reduceNe, Int.reduceEq]
end Go.Proofs.Ytgpipheibnlkhaa
