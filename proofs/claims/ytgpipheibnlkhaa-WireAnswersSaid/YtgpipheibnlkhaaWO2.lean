/- What functions of the program compute. No condition. -/
import Derived.Test.YtgpipheibnlkhaaWN
import Derived.Test.YtgpipheibnlkhaaWO
set_option linter.unusedSimpArgs false
set_option linter.unusedVariables false
namespace Go.Proofs.Ytgpipheibnlkhaa
open Go Go.Ab

theorem acK_nilarr {P : Program} {f : FuncId} {args : List AV} {H : List AO} {K Kp : AV → List AO → Prop} {z n : Nat} {l : List AV} (h : ACall P f (.own 0 z 0 0 :: args) [.arr z []] fun y G => y = .own 1 z 0 n ∧ G = [.dead, .arr z l])
    (ha : AV.renL (fun _ => 0) args = args) (hb : AV.belL 0 args = true) (hk : K (.own (H.length + 1) z 0 n) (H ++ [.dead, .arr z l])) : acK P f (.nils :: args) H K Kp := by
  refine acK_new (ACall.nilo h) ?_ ?_ ?_
  · show (AV.bel 0 .nils && AV.belL 0 args) = true
    rw [hb]; rfl
  · show AV.nils :: AV.renL (fun _ => 0) args = _
    rw [ha]
  · rintro y Hr ⟨rfl, rfl⟩
    exact hk

theorem xwrongO_ok (o : Out) : PCall Try.prog 58 [OUT o] (.int .i64 (wrongO o)) := by
  unfold PCall
  refine acall_of is58 (by simp) ?_
  unfold cc58
  by_cases h1 : o.err < 0
  · have : wrongO o = 1 := by unfold wrongO; rw [if_pos (.inl h1)]
    rw [this]
    simp -implicitDefEqProofs (maxSteps := 500000) (disch := first | decide | omega) only [↓preS, ↓reduceIte, allS, Nat.reduceBEq, Nat.reduceAdd, Nat.reduceEqDiff, reduceIte, Int.reduceToNat, Int.reduceLE, Int.reduceLT, Nat.reduceLeDiff, Nat.reduceMul, Nat.reducePow, Nat.reduceLT, Int.reduceBEq, Int.reduceBNe, Int.reduceAdd, Int.reduceSub, Int.reduceMul, Int.reduceGT, Int.reduceGE, decS, Int.reduceNe, Int.reduceEq, outS]
  by_cases h2 : 19 < o.err
  · have : wrongO o = 1 := by unfold wrongO; rw [if_pos (.inr h2)]
    rw [this]
    simp -implicitDefEqProofs (maxSteps := 500000) (disch := first | decide | omega) only [↓preS, ↓reduceIte, allS, Nat.reduceBEq, Nat.reduceAdd, Nat.reduceEqDiff, reduceIte, Int.reduceToNat, Int.reduceLE, Int.reduceLT, Nat.reduceLeDiff, Nat.reduceMul, Nat.reducePow, Nat.reduceLT, Int.reduceBEq, Int.reduceBNe, Int.reduceAdd, Int.reduceSub, Int.reduceMul, Int.reduceGT, Int.reduceGE, decS, Int.reduceNe, Int.reduceEq, outS]
  by_cases h3 : 300 < o.conts.length
  · have : wrongO o = 4 := by unfold wrongO manyO; rw [if_neg (by omega)]; simp [h3]
    rw [this]
    simp -implicitDefEqProofs (maxSteps := 500000) (disch := first | decide | omega) only [↓preS, ↓reduceIte, allS, Nat.reduceBEq, Nat.reduceAdd, Nat.reduceEqDiff, reduceIte, Int.reduceToNat, Int.reduceLE, Int.reduceLT, Nat.reduceLeDiff, Nat.reduceMul, Nat.reducePow, Nat.reduceLT, Int.reduceBEq, Int.reduceBNe, Int.reduceAdd, Int.reduceSub, Int.reduceMul, Int.reduceGT, Int.reduceGE, decS, Int.reduceNe, Int.reduceEq, outS]
  by_cases h4 : 300 < o.ids.length
  · have : wrongO o = 4 := by unfold wrongO manyO; rw [if_neg (by omega)]; simp [h4]
    rw [this]
    simp -implicitDefEqProofs (maxSteps := 500000) (disch := first | decide | omega) only [↓preS, ↓reduceIte, allS, Nat.reduceBEq, Nat.reduceAdd, Nat.reduceEqDiff, reduceIte, Int.reduceToNat, Int.reduceLE, Int.reduceLT, Nat.reduceLeDiff, Nat.reduceMul, Nat.reducePow, Nat.reduceLT, Int.reduceBEq, Int.reduceBNe, Int.reduceAdd, Int.reduceSub, Int.reduceMul, Int.reduceGT, Int.reduceGE, decS, Int.reduceNe, Int.reduceEq, outS]
  by_cases h5 : 300 < o.gone.length
  · have : wrongO o = 4 := by unfold wrongO manyO; rw [if_neg (by omega)]; simp [h5]
    rw [this]
    simp -implicitDefEqProofs (maxSteps := 500000) (disch := first | decide | omega) only [↓preS, ↓reduceIte, allS, Nat.reduceBEq, Nat.reduceAdd, Nat.reduceEqDiff, reduceIte, Int.reduceToNat, Int.reduceLE, Int.reduceLT, Nat.reduceLeDiff, Nat.reduceMul, Nat.reducePow, Nat.reduceLT, Int.reduceBEq, Int.reduceBNe, Int.reduceAdd, Int.reduceSub, Int.reduceMul, Int.reduceGT, Int.reduceGE, decS, Int.reduceNe, Int.reduceEq, outS]
  · have : wrongO o = 0 := by unfold wrongO manyO; rw [if_neg (by omega)]; simp [h3, h4, h5]
    rw [this]
    simp -implicitDefEqProofs (maxSteps := 500000) (disch := first | decide | omega) only [↓preS, ↓reduceIte, allS, Nat.reduceBEq, Nat.reduceAdd, Nat.reduceEqDiff, reduceIte, Int.reduceToNat, Int.reduceLE, Int.reduceLT, Nat.reduceLeDiff, Nat.reduceMul, Nat.reducePow, Nat.reduceLT, Int.reduceBEq, Int.reduceBNe, Int.reduceAdd, Int.reduceSub, Int.reduceMul, Int.reduceGT, Int.reduceGE, decS, Int.reduceNe, Int.reduceEq, outS]

theorem xloop25 (o : Out) (b : List UInt8) (hb : b.length ≤ 2 ^ 20) (hl : o.conts.length ≤ 300) (Q : AE → St → Prop)
    (h : Q .normal ⟨[(1, .ref 0 0 0), (4, .own 1 1 0 (b ++ o.conts.flatMap fun c => ints (contI c)).length)], [.box (outC o), .arr 1 ((b ++ o.conts.flatMap fun c => ints (contI c)).map U8)]⟩) (x y : AO) :
    aw Try.prog cc25L0 Q ⟨[(1, .ref 0 0 0), (4, .own 3 1 0 b.length), (5, .int .i64 0)], [.box (outC o), x, y, .arr 1 (b.map U8)]⟩ := by
  unfold cc25L0
  simp -implicitDefEqProofs (maxSteps := 500000) (disch := first | decide | omega) only [↓preS, ↓reduceIte, allS, Nat.reduceBEq, Nat.reduceAdd, Nat.reduceEqDiff, reduceIte, Int.reduceToNat, Int.reduceLE, Int.reduceLT, Nat.reduceLeDiff, Nat.reduceMul, Nat.reducePow, Nat.reduceLT, Int.reduceBEq, Int.reduceBNe, Int.reduceAdd, Int.reduceSub, Int.reduceMul, Int.reduceGT, Int.reduceGE, decS, Int.reduceNe, Int.reduceEq]
  refine aw_loopS (σ := Nat) (fun i => ⟨[(1, .ref 0 0 0), (4, .own 1 1 0 (b ++ (o.conts.take i).flatMap fun c => ints (contI c)).length), (5, .int .i64 (i : Int))], [.box (outC o), .arr 1 ((b ++ (o.conts.take i).flatMap fun c => ints (contI c)).map U8)]⟩)
    (fun i => i ≤ o.conts.length) (fun i => o.conts.length - i) 0 ?_ (by simp) ?_
  · simp only [List.take_zero, List.flatMap_nil, List.append_nil]
    generalize b.map U8 = q
    generalize b.length = n
    (refine Sub.ofL [some 0, some 3] rfl (by simp) (by decide) (by simp [partL, AO.ro, AV.ro, AV.roL, names, AO.empty, SB, U8, SI, I64, STR]) (by simp [AO.bo, AV.bo, AV.boL, names]) ?_ <;> (try simp only [List.map_cons, List.map_nil, regsL, AV.ro, AV.roL, AV.bo, AV.boL, names, get_here, get_there, Nat.reduceBEq, List.getD_cons_zero, List.getD_cons_succ, List.getD_nil, and_true, true_and, Nat.reduceLT, List.length_cons, List.length_nil, Nat.reduceAdd, decide_true, Option.isSome_some, Bool.true_or, Bool.and_self, Option.isSome_none, Bool.false_or, beq_self_eq_true, wk0_self, wk0_nils]) <;> (try and_intros) <;> (first | done | rfl | exact .inl rfl | exact .inr ⟨rfl, _, _, rfl⟩ | (simp; done) | (simp; omega) | (refine .inl ?_; simp; done) | (refine .inl ?_; simp; omega)))
  intro k hk
  unfold cc25l0
  by_cases hk8 : k < o.conts.length
  · have hfk := conts_len (o.conts.take k)
    have hk2 : (o.conts.take k).length ≤ 300 := by rw [List.length_take]; omega
    have s1 : b ++ (o.conts.take (k + 1)).flatMap (fun c => ints (contI c)) = b ++ (o.conts.take k).flatMap (fun c => ints (contI c)) ++ ints (contI (o.conts.getD k default)) := by
      rw [fmt o.conts (fun c => ints (contI c)) k hk8, ← List.append_assoc]
    have wo := fun t => xnums_ok t (b ++ (o.conts.take k).flatMap fun c => ints (contI c)) (contI (o.conts.getD k default)) (by rw [List.length_append, hfk]; simp [contI]; omega) (by simp [contI])
    rw [← s1] at wo
    have fin : ∀ w : List UInt8, w = b ++ (o.conts.take (k + 1)).flatMap (fun c => ints (contI c)) → ∀ y, ∃ j, Ab.Sub 0 ⟨[(1, .ref 0 0 0), (4, .own 4 1 0 w.length), (5, .int .i64 ((k : Int) + 1))], [.box (outC o), .dead, .box y, .dead, .arr 1 (w.map U8)]⟩ ⟨[(1, .ref 0 0 0), (4, .own 1 1 0 (b ++ (o.conts.take j).flatMap fun c => ints (contI c)).length), (5, .int .i64 (j : Int))], [.box (outC o), .arr 1 ((b ++ (o.conts.take j).flatMap fun c => ints (contI c)).map U8)]⟩ ∧ j ≤ o.conts.length ∧ o.conts.length - j < o.conts.length - k := by
      intro w hw y
      refine ⟨k + 1, ?_, by omega, by omega⟩
      rw [← hw]
      generalize w.map U8 = q
      generalize w.length = n
      (refine Sub.ofL [some 0, some 4] rfl (by simp) (by decide) (by simp [partL, AO.ro, AV.ro, AV.roL, names, AO.empty, SB, U8, SI, I64, STR]) (by simp [AO.bo, AV.bo, AV.boL, names]) ?_ <;> (try simp only [List.map_cons, List.map_nil, regsL, AV.ro, AV.roL, AV.bo, AV.boL, names, get_here, get_there, Nat.reduceBEq, List.getD_cons_zero, List.getD_cons_succ, List.getD_nil, and_true, true_and, Nat.reduceLT, List.length_cons, List.length_nil, Nat.reduceAdd, decide_true, Option.isSome_some, Bool.true_or, Bool.and_self, Option.isSome_none, Bool.false_or, beq_self_eq_true, wk0_self, wk0_nils]) <;> (try and_intros) <;> (first | done | rfl | exact .inl rfl | exact .inr ⟨rfl, _, _, rfl⟩ | (simp; done) | (simp; omega) | (refine .inl ?_; simp; done) | (refine .inl ?_; simp; omega)))
    generalize hu : b ++ (o.conts.take k).flatMap (fun c => ints (contI c)) = u at wo ⊢
    generalize hw : b ++ (o.conts.take (k + 1)).flatMap (fun c => ints (contI c)) = w at wo
    simp -implicitDefEqProofs (maxSteps := 500000) (disch := first | decide | omega) only [↓preS, ↓reduceIte, allS, Nat.reduceBEq, Nat.reduceAdd, Nat.reduceEqDiff, reduceIte, Int.reduceToNat, Int.reduceLE, Int.reduceLT, Nat.reduceLeDiff, Nat.reduceMul, Nat.reducePow, Nat.reduceLT, Int.reduceBEq, Int.reduceBNe, Int.reduceAdd, Int.reduceSub, Int.reduceMul, Int.reduceGT, Int.reduceGE, decS, Int.reduceNe, Int.reduceEq, CONT, outS]
    refine ⟨by omega, by omega, ?_⟩
    refine cK_split (fun hc => ?_) (fun hc => ?_)
    · simp only [contI, hc, if_true] at wo
      simp -implicitDefEqProofs (maxSteps := 500000) (disch := first | decide | omega) only [↓preS, ↓reduceIte, allS, Nat.reduceBEq, Nat.reduceAdd, Nat.reduceEqDiff, reduceIte, Int.reduceToNat, Int.reduceLE, Int.reduceLT, Nat.reduceLeDiff, Nat.reduceMul, Nat.reducePow, Nat.reduceLT, Int.reduceBEq, Int.reduceBNe, Int.reduceAdd, Int.reduceSub, Int.reduceMul, Int.reduceGT, Int.reduceGE, decS, Int.reduceNe, Int.reduceEq, CONT]
      refine acK_arr (wo _) rfl rfl rfl ?_
      simp -implicitDefEqProofs (maxSteps := 500000) (disch := first | decide | omega) only [↓preS, ↓reduceIte, allS, Nat.reduceBEq, Nat.reduceAdd, Nat.reduceEqDiff, reduceIte, Int.reduceToNat, Int.reduceLE, Int.reduceLT, Nat.reduceLeDiff, Nat.reduceMul, Nat.reducePow, Nat.reduceLT, Int.reduceBEq, Int.reduceBNe, Int.reduceAdd, Int.reduceSub, Int.reduceMul, Int.reduceGT, Int.reduceGE, decS, Int.reduceNe, Int.reduceEq]
      have f := fin w hw.symm (CONT (o.conts.getD k default)).cells
      simp only [List.length_append] at f ⊢
      exact f
    · simp only [contI, hc, Bool.false_eq_true, if_false] at wo
      simp -implicitDefEqProofs (maxSteps := 500000) (disch := first | decide | omega) only [↓preS, ↓reduceIte, allS, Nat.reduceBEq, Nat.reduceAdd, Nat.reduceEqDiff, reduceIte, Int.reduceToNat, Int.reduceLE, Int.reduceLT, Nat.reduceLeDiff, Nat.reduceMul, Nat.reducePow, Nat.reduceLT, Int.reduceBEq, Int.reduceBNe, Int.reduceAdd, Int.reduceSub, Int.reduceMul, Int.reduceGT, Int.reduceGE, decS, Int.reduceNe, Int.reduceEq, CONT]
      refine acK_arr (wo _) rfl rfl rfl ?_
      simp -implicitDefEqProofs (maxSteps := 500000) (disch := first | decide | omega) only [↓preS, ↓reduceIte, allS, Nat.reduceBEq, Nat.reduceAdd, Nat.reduceEqDiff, reduceIte, Int.reduceToNat, Int.reduceLE, Int.reduceLT, Nat.reduceLeDiff, Nat.reduceMul, Nat.reducePow, Nat.reduceLT, Int.reduceBEq, Int.reduceBNe, Int.reduceAdd, Int.reduceSub, Int.reduceMul, Int.reduceGT, Int.reduceGE, decS, Int.reduceNe, Int.reduceEq]
      have f := fin w hw.symm (CONT (o.conts.getD k default)).cells
      simp only [List.length_append] at f ⊢
      exact f
  · have hk9 : k = o.conts.length := by omega
    subst hk9
    rw [List.take_length]
    generalize b ++ o.conts.flatMap (fun c => ints (contI c)) = u at h ⊢
    simp -implicitDefEqProofs (maxSteps := 500000) (disch := first | decide | omega) only [↓preS, ↓reduceIte, allS, Nat.reduceBEq, Nat.reduceAdd, Nat.reduceEqDiff, reduceIte, Int.reduceToNat, Int.reduceLE, Int.reduceLT, Nat.reduceLeDiff, Nat.reduceMul, Nat.reducePow, Nat.reduceLT, Int.reduceBEq, Int.reduceBNe, Int.reduceAdd, Int.reduceSub, Int.reduceMul, Int.reduceGT, Int.reduceGE, decS, Int.reduceNe, Int.reduceEq, outS]
    exact h

set_option maxRecDepth 20000 in
set_option maxHeartbeats 4000000 in
theorem xoutput_ok (o : Out) : PCall Try.prog 25 [OUT o] (outR o) := by
  refine PCall.wk3 (acall_of is25 (by simp) ?_)
  unfold cc25
  simp -implicitDefEqProofs (maxSteps := 500000) (disch := first | decide | omega) only [↓preS, ↓reduceIte, allS, Nat.reduceBEq, Nat.reduceAdd, Nat.reduceEqDiff, reduceIte, Int.reduceToNat, Int.reduceLE, Int.reduceLT, Nat.reduceLeDiff, Nat.reduceMul, Nat.reducePow, Nat.reduceLT, Int.reduceBEq, Int.reduceBNe, Int.reduceAdd, Int.reduceSub, Int.reduceMul, Int.reduceGT, Int.reduceGE, decS, Int.reduceNe, Int.reduceEq, outS]
  refine acK_of (FCall.of (lent := false) (xwrongO_ok o) (.refl rfl) rfl (by simp)) ?_
  by_cases hw : wrongO o = 0
  · have e : outR o = .tup [SB (encO o), .int .i64 0] := if_pos hw
    obtain ⟨z1, z2, z3, z4, z5, z6⟩ := wrongO_zero hw
    rw [e, hw]
    have l1 := intsLn o.ids
    have l2 := intsLn o.gone
    have l3 := conts_len o.conts
    simp -implicitDefEqProofs (maxSteps := 500000) (disch := first | decide | omega) only [↓preS, ↓reduceIte, allS, Nat.reduceBEq, Nat.reduceAdd, Nat.reduceEqDiff, reduceIte, Int.reduceToNat, Int.reduceLE, Int.reduceLT, Nat.reduceLeDiff, Nat.reduceMul, Nat.reducePow, Nat.reduceLT, Int.reduceBEq, Int.reduceBNe, Int.reduceAdd, Int.reduceSub, Int.reduceMul, Int.reduceGT, Int.reduceGE, decS, Int.reduceNe, Int.reduceEq, outS]
    refine acK_nilarr (xnums_ok false [] [o.err, o.conts.length] (by simp) (by simp)) rfl rfl ?_
    rw [List.nil_append]
    have lb0 : (ints [o.err, o.conts.length]).length = 16 := by rw [ints_len]; rfl
    have ef0 : encO o = ints [o.err, o.conts.length] ++ o.conts.flatMap (fun c => ints (contI c)) ++ intsL o.ids ++ intsL o.gone ++ ints [o.n] := rfl
    generalize ints [o.err, o.conts.length] = b0 at lb0 ef0
    simp -implicitDefEqProofs (maxSteps := 500000) (disch := first | decide | omega) only [↓preS, ↓reduceIte, allS, Nat.reduceBEq, Nat.reduceAdd, Nat.reduceEqDiff, reduceIte, Int.reduceToNat, Int.reduceLE, Int.reduceLT, Nat.reduceLeDiff, Nat.reduceMul, Nat.reducePow, Nat.reduceLT, Int.reduceBEq, Int.reduceBNe, Int.reduceAdd, Int.reduceSub, Int.reduceMul, Int.reduceGT, Int.reduceGE, decS, Int.reduceNe, Int.reduceEq, outS]
    refine xloop25 o b0 (by omega) z3 _ ?_ _ _
    generalize hb : b0 ++ o.conts.flatMap (fun c => ints (contI c)) = b at ef0
    have lb : b.length ≤ 2 ^ 20 := by rw [← hb, List.length_append, lb0, l3]; omega
    have c1 := xints_ok false b o.ids (by omega) (by omega)
    have lb2 : (b ++ intsL o.ids).length ≤ 2 ^ 21 := by rw [List.length_append]; omega
    have c2 := xints_ok false (b ++ intsL o.ids) o.gone (by omega) (by omega)
    have lb3 : (b ++ intsL o.ids ++ intsL o.gone).length ≤ 2 ^ 22 := by rw [List.length_append]; omega
    have c3 := xint_ok (b ++ intsL o.ids ++ intsL o.gone) o.n (by omega)
    have ef : encO o = b ++ intsL o.ids ++ intsL o.gone ++ be 8 o.n := by rw [ef0]; simp [ints]
    rw [ef]
    generalize b ++ intsL o.ids ++ intsL o.gone ++ be 8 o.n = w at c3
    generalize b ++ intsL o.ids ++ intsL o.gone = w2 at c2 c3
    generalize b ++ intsL o.ids = w1 at c1 c2
    simp -implicitDefEqProofs (maxSteps := 500000) (disch := first | decide | omega) only [↓preS, ↓reduceIte, allS, Nat.reduceBEq, Nat.reduceAdd, Nat.reduceEqDiff, reduceIte, Int.reduceToNat, Int.reduceLE, Int.reduceLT, Nat.reduceLeDiff, Nat.reduceMul, Nat.reducePow, Nat.reduceLT, Int.reduceBEq, Int.reduceBNe, Int.reduceAdd, Int.reduceSub, Int.reduceMul, Int.reduceGT, Int.reduceGE, decS, Int.reduceNe, Int.reduceEq, outS]
    repeat' first
      | with_reducible refine And.intro ?_ ?_
      | (refine acK_arr c1 rfl rfl rfl ?_; simp -implicitDefEqProofs (maxSteps := 500000) (disch := first | decide | omega) only [↓preS, ↓reduceIte, allS, Nat.reduceBEq, Nat.reduceAdd, Nat.reduceEqDiff, reduceIte, Int.reduceToNat, Int.reduceLE, Int.reduceLT, Nat.reduceLeDiff, Nat.reduceMul, Nat.reducePow, Nat.reduceLT, Int.reduceBEq, Int.reduceBNe, Int.reduceAdd, Int.reduceSub, Int.reduceMul, Int.reduceGT, Int.reduceGE, decS, Int.reduceNe, Int.reduceEq, outS])
      | (refine acK_arr c2 rfl rfl rfl ?_; simp -implicitDefEqProofs (maxSteps := 500000) (disch := first | decide | omega) only [↓preS, ↓reduceIte, allS, Nat.reduceBEq, Nat.reduceAdd, Nat.reduceEqDiff, reduceIte, Int.reduceToNat, Int.reduceLE, Int.reduceLT, Nat.reduceLeDiff, Nat.reduceMul, Nat.reducePow, Nat.reduceLT, Int.reduceBEq, Int.reduceBNe, Int.reduceAdd, Int.reduceSub, Int.reduceMul, Int.reduceGT, Int.reduceGE, decS, Int.reduceNe, Int.reduceEq, outS])
      | (refine acK_arr c3 rfl rfl rfl ?_; simp -implicitDefEqProofs (maxSteps := 500000) (disch := first | decide | omega) only [↓preS, ↓reduceIte, allS, Nat.reduceBEq, Nat.reduceAdd, Nat.reduceEqDiff, reduceIte, Int.reduceToNat, Int.reduceLE, Int.reduceLT, Nat.reduceLeDiff, Nat.reduceMul, Nat.reducePow, Nat.reduceLT, Int.reduceBEq, Int.reduceBNe, Int.reduceAdd, Int.reduceSub, Int.reduceMul, Int.reduceGT, Int.reduceGE, decS, Int.reduceNe, Int.reduceEq, outS])
      | exact .inl (.inl (.inl rfl))
  · have e : outR o = .tup [SB [], .int .i64 (wrongO o)] := if_neg hw
    rw [e]
    simp -implicitDefEqProofs (maxSteps := 500000) (disch := first | decide | omega) only [↓preS, ↓reduceIte, allS, Nat.reduceBEq, Nat.reduceAdd, Nat.reduceEqDiff, reduceIte, Int.reduceToNat, Int.reduceLE, Int.reduceLT, Nat.reduceLeDiff, Nat.reduceMul, Nat.reducePow, Nat.reduceLT, Int.reduceBEq, Int.reduceBNe, Int.reduceAdd, Int.reduceSub, Int.reduceMul, Int.reduceGT, Int.reduceGE, decS, Int.reduceNe, Int.reduceEq, outS]
    refine acK_of (FCall.of (lent := false) (xwrongO_ok o) (.refl rfl) rfl (by simp)) ?_
    simp -implicitDefEqProofs (maxSteps := 500000) (disch := first | decide | omega) only [↓preS, ↓reduceIte, allS, Nat.reduceBEq, Nat.reduceAdd, Nat.reduceEqDiff, reduceIte, Int.reduceToNat, Int.reduceLE, Int.reduceLT, Nat.reduceLeDiff, Nat.reduceMul, Nat.reducePow, Nat.reduceLT, Int.reduceBEq, Int.reduceBNe, Int.reduceAdd, Int.reduceSub, Int.reduceMul, Int.reduceGT, Int.reduceGE, decS, Int.reduceNe, Int.reduceEq, outS]
    exact .inr ⟨_, _, rfl, rfl, .inl (.inr ⟨rfl, _, _, rfl⟩), .inl (.inl rfl), trivial⟩
end Go.Proofs.Ytgpipheibnlkhaa
