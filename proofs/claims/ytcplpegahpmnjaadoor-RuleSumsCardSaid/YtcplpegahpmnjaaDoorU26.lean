/- What functions of the program compute. No condition. -/
import Derived.Test.YtcplpegahpmnjaaDoorU25
set_option linter.unusedSimpArgs false
set_option linter.unusedVariables false
namespace Go.Proofs.YtcplpegahpmnjaaDoor
open Go Go.Ab
set_option maxRecDepth 20000 in
set_option maxHeartbeats 16000000 in
theorem qstep0 (ns : List Int) (hns : ns.length < 2 ^ 62) (labs pl : List (List UInt8)) (nl r : Nat) (hlab : labs.length = nl) (hnl : nl = 1 ∨ nl = 2) (hi : 0 < pl.length) (ps : Nat → List UInt8) (us : Nat → Int) (cs : Nat → List Cap) (Q : AE → St → Prop)
    (hQ : ∀ (u : Int) (r' : Nat), 1 ≤ u → u ≤ 1000000 → Q .normal ⟨[(1, .sl false 1 (ns.map I64)), (4, .ref 0 0 0), (6, .ref 1 0 0), (7, .sl false 1 (pl.map AV.str)), (8, .int .i64 (1))], [.box [.nils, .nils], .box [.sl false 1 (labs.map AV.str), .own 5 3 0 1], .box [.str pl[0], .own 3 2 0 nl, .int .i64 u], .arr 2 ((List.replicate nl W0).map CAP), .box [.str pl[0], .own 3 2 0 nl, .int .i64 u], .box ([.str pl[0], .own 3 2 0 nl, .int .i64 u] ++ List.replicate r' AV.any)]⟩) :
    aw Tryd.prog cc10l5 Q ⟨[(1, .sl false 1 (ns.map I64)), (4, .ref 0 0 0), (6, .ref 1 0 0), (7, .sl false 1 (pl.map AV.str)), (8, .int .i64 ((0 : Nat)))], [.box [.nils, .nils], .box [.sl false 1 (labs.map AV.str), .nils]]⟩ := by
  unfold cc10l5
  have hg : pl.getD 0 default = pl[0] := by simp [hi]
  by_cases h1 : 0 < ns.length
  · have hgn : ns.getD 0 default = ns[0] := by simp [h1]
    have cw := within_ok ns[0] 20000 (by omega) (by omega)
    have ww := win_rng ns[0] 20000 (by omega)
    generalize win ns[0] 20000 = w at cw ww
    generalize ns[0] = v at cw hgn
    by_cases h2 : v.tmod 3 = 0
    · simp -implicitDefEqProofs (maxSteps := 500000) (disch := first | decide | omega) only [↓preS, allS, decS, simprocAttr, hg, hgn, fillOk, fillAV, List.append_nil]
      repeat (refine And.intro (by omega) ?_)
      refine acK_of (FCall.of (lent := false) (cw) (.refl rfl) rfl (by simp)) ?_
      simp -implicitDefEqProofs (maxSteps := 500000) (disch := first | decide | omega) only [↓preS, allS, decS, simprocAttr, hg, hgn, fillOk, fillAV, List.append_nil]
      unfold cc10L4
      simp -implicitDefEqProofs (maxSteps := 500000) (disch := first | decide | omega) only [↓preS, allS, decS, simprocAttr]
      repeat (refine And.intro (by omega) ?_)
      refine cloop0 ns labs pl nl r hlab hnl 0 (1 + w) pl[0] ps us cs _ ?_ _ (.inl rfl)
      rcases hnl with rfl | rfl <;> (
      simp only [capT]
      simp -implicitDefEqProofs (maxSteps := 500000) (disch := first | decide | omega) only [↓preS, allS, decS, simprocAttr]
      refine sbl_box (by decide) rfl rfl (fun y hy => ?_) ?_
      · simp only [ev, Regs.get, AV.cells] at hy
        simp only [↓reduceIte, Nat.reduceEqDiff, List.mem_cons, List.not_mem_nil, or_false] at hy
        rcases hy with rfl | rfl | rfl <;> rfl
      simp -implicitDefEqProofs (maxSteps := 500000) (disch := first | decide | omega) only [↓preS, allS, decS, simprocAttr]
      refine sap_box (n := 0) (m := 1) (by decide) (by decide) (.inl ⟨rfl, rfl, rfl⟩) (by simp) rfl rfl rfl (by decide) (by decide) (fun r' => ?_)
      simp -implicitDefEqProofs (maxSteps := 500000) (disch := first | decide | omega) only [↓preS, allS, decS, simprocAttr, List.take_succ_cons, List.take_zero, List.cons_append, List.nil_append, Nat.reduceMul]
      exact hQ (1 + w) r' (by omega) (by omega))
    · simp -implicitDefEqProofs (maxSteps := 500000) (disch := first | decide | omega) only [↓preS, allS, decS, simprocAttr, hg, hgn, fillOk, fillAV, List.append_nil]
      unfold cc10L4
      simp -implicitDefEqProofs (maxSteps := 500000) (disch := first | decide | omega) only [↓preS, allS, decS, simprocAttr]
      repeat (refine And.intro (by omega) ?_)
      refine cloop0 ns labs pl nl r hlab hnl 0 1000000 pl[0] ps us cs _ ?_ _ (.inl rfl)
      rcases hnl with rfl | rfl <;> (
      simp only [capT]
      simp -implicitDefEqProofs (maxSteps := 500000) (disch := first | decide | omega) only [↓preS, allS, decS, simprocAttr]
      refine sbl_box (by decide) rfl rfl (fun y hy => ?_) ?_
      · simp only [ev, Regs.get, AV.cells] at hy
        simp only [↓reduceIte, Nat.reduceEqDiff, List.mem_cons, List.not_mem_nil, or_false] at hy
        rcases hy with rfl | rfl | rfl <;> rfl
      simp -implicitDefEqProofs (maxSteps := 500000) (disch := first | decide | omega) only [↓preS, allS, decS, simprocAttr]
      refine sap_box (n := 0) (m := 1) (by decide) (by decide) (.inl ⟨rfl, rfl, rfl⟩) (by simp) rfl rfl rfl (by decide) (by decide) (fun r' => ?_)
      simp -implicitDefEqProofs (maxSteps := 500000) (disch := first | decide | omega) only [↓preS, allS, decS, simprocAttr, List.take_succ_cons, List.take_zero, List.cons_append, List.nil_append, Nat.reduceMul]
      exact hQ 1000000 r' (by omega) (by omega))
  · simp -implicitDefEqProofs (maxSteps := 500000) (disch := first | decide | omega) only [↓preS, allS, decS, simprocAttr, hg, fillOk, fillAV, List.append_nil]
    unfold cc10L4
    simp -implicitDefEqProofs (maxSteps := 500000) (disch := first | decide | omega) only [↓preS, allS, decS, simprocAttr]
    repeat (refine And.intro (by omega) ?_)
    refine cloop0 ns labs pl nl r hlab hnl 0 1000000 pl[0] ps us cs _ ?_ _ (.inl rfl)
    rcases hnl with rfl | rfl <;> (
    simp only [capT]
    simp -implicitDefEqProofs (maxSteps := 500000) (disch := first | decide | omega) only [↓preS, allS, decS, simprocAttr]
    refine sbl_box (by decide) rfl rfl (fun y hy => ?_) ?_
    · simp only [ev, Regs.get, AV.cells] at hy
      simp only [↓reduceIte, Nat.reduceEqDiff, List.mem_cons, List.not_mem_nil, or_false] at hy
      rcases hy with rfl | rfl | rfl <;> rfl
    simp -implicitDefEqProofs (maxSteps := 500000) (disch := first | decide | omega) only [↓preS, allS, decS, simprocAttr]
    refine sap_box (n := 0) (m := 1) (by decide) (by decide) (.inl ⟨rfl, rfl, rfl⟩) (by simp) rfl rfl rfl (by decide) (by decide) (fun r' => ?_)
    simp -implicitDefEqProofs (maxSteps := 500000) (disch := first | decide | omega) only [↓preS, allS, decS, simprocAttr, List.take_succ_cons, List.take_zero, List.cons_append, List.nil_append, Nat.reduceMul]
    exact hQ 1000000 r' (by omega) (by omega))
set_option maxRecDepth 20000 in
set_option maxHeartbeats 16000000 in
theorem qstep1 (ns : List Int) (hns : ns.length < 2 ^ 62) (labs pl : List (List UInt8)) (nl r : Nat) (hlab : labs.length = nl) (hnl : nl = 1 ∨ nl = 2) (hi : 1 < pl.length) (ps : Nat → List UInt8) (us : Nat → Int) (cs : Nat → List Cap) (Q : AE → St → Prop)
    (hQ : ∀ (u : Int) (r' : Nat), 1 ≤ u → u ≤ 1000000 → Q .normal ⟨[(1, .sl false 1 (ns.map I64)), (4, .ref 0 0 0), (6, .ref 1 0 0), (7, .sl false 1 (pl.map AV.str)), (8, .int .i64 (2))], [.box [.nils, .nils], .box [.sl false 1 (labs.map AV.str), .own 7 3 0 2], .dead, .arr 2 ((cs 0).map CAP), .box [.str pl[1], .own 5 2 0 nl, .int .i64 u], .arr 2 ((List.replicate nl W0).map CAP), .box [.str pl[1], .own 5 2 0 nl, .int .i64 u], .box ([.str (ps 0), .own 3 2 0 nl, .int .i64 (us 0), .str pl[1], .own 5 2 0 nl, .int .i64 u] ++ List.replicate r' AV.any)]⟩) :
    aw Tryd.prog cc10l5 Q ⟨[(1, .sl false 1 (ns.map I64)), (4, .ref 0 0 0), (6, .ref 1 0 0), (7, .sl false 1 (pl.map AV.str)), (8, .int .i64 ((1 : Nat)))], [.box [.nils, .nils], .box [.sl false 1 (labs.map AV.str), .own 2 3 0 1], .box ([.str (ps 0), .own 3 2 0 nl, .int .i64 (us 0)] ++ List.replicate r AV.any), .arr 2 ((cs 0).map CAP)]⟩ := by
  unfold cc10l5
  have hg : pl.getD 1 default = pl[1] := by simp [hi]
  by_cases h1 : 1 < ns.length
  · have hgn : ns.getD 1 default = ns[1] := by simp [h1]
    have cw := within_ok ns[1] 20000 (by omega) (by omega)
    have ww := win_rng ns[1] 20000 (by omega)
    generalize win ns[1] 20000 = w at cw ww
    generalize ns[1] = v at cw hgn
    by_cases h2 : v.tmod 3 = 0
    · simp -implicitDefEqProofs (maxSteps := 500000) (disch := first | decide | omega) only [↓preS, allS, decS, simprocAttr, hg, hgn, fillOk, fillAV, List.append_nil]
      repeat (refine And.intro (by omega) ?_)
      refine acK_of (FCall.of (lent := false) (cw) (.refl rfl) rfl (by simp)) ?_
      simp -implicitDefEqProofs (maxSteps := 500000) (disch := first | decide | omega) only [↓preS, allS, decS, simprocAttr, hg, hgn, fillOk, fillAV, List.append_nil]
      unfold cc10L4
      simp -implicitDefEqProofs (maxSteps := 500000) (disch := first | decide | omega) only [↓preS, allS, decS, simprocAttr]
      repeat (refine And.intro (by omega) ?_)
      refine cloop1 ns labs pl nl r hlab hnl 1 (1 + w) pl[1] ps us cs _ ?_ _ (.inl rfl)
      rcases hnl with rfl | rfl <;> (
      simp only [capT]
      simp -implicitDefEqProofs (maxSteps := 500000) (disch := first | decide | omega) only [↓preS, allS, decS, simprocAttr]
      refine sbl_box (by decide) rfl rfl (fun y hy => ?_) ?_
      · simp only [ev, Regs.get, AV.cells] at hy
        simp only [↓reduceIte, Nat.reduceEqDiff, List.mem_cons, List.not_mem_nil, or_false] at hy
        rcases hy with rfl | rfl | rfl <;> rfl
      simp -implicitDefEqProofs (maxSteps := 500000) (disch := first | decide | omega) only [↓preS, allS, decS, simprocAttr]
      refine sap_box (n := 1) (m := 1) (by decide) (by decide) (.inr ⟨2, rfl, rfl⟩) (by simp only [List.length_cons]; omega) rfl rfl rfl (by decide) (by decide) (fun r' => ?_)
      simp -implicitDefEqProofs (maxSteps := 500000) (disch := first | decide | omega) only [↓preS, allS, decS, simprocAttr, List.take_succ_cons, List.take_zero, List.cons_append, List.nil_append, Nat.reduceMul]
      exact hQ (1 + w) r' (by omega) (by omega))
    · simp -implicitDefEqProofs (maxSteps := 500000) (disch := first | decide | omega) only [↓preS, allS, decS, simprocAttr, hg, hgn, fillOk, fillAV, List.append_nil]
      unfold cc10L4
      simp -implicitDefEqProofs (maxSteps := 500000) (disch := first | decide | omega) only [↓preS, allS, decS, simprocAttr]
      repeat (refine And.intro (by omega) ?_)
      refine cloop1 ns labs pl nl r hlab hnl 1 1000000 pl[1] ps us cs _ ?_ _ (.inl rfl)
      rcases hnl with rfl | rfl <;> (
      simp only [capT]
      simp -implicitDefEqProofs (maxSteps := 500000) (disch := first | decide | omega) only [↓preS, allS, decS, simprocAttr]
      refine sbl_box (by decide) rfl rfl (fun y hy => ?_) ?_
      · simp only [ev, Regs.get, AV.cells] at hy
        simp only [↓reduceIte, Nat.reduceEqDiff, List.mem_cons, List.not_mem_nil, or_false] at hy
        rcases hy with rfl | rfl | rfl <;> rfl
      simp -implicitDefEqProofs (maxSteps := 500000) (disch := first | decide | omega) only [↓preS, allS, decS, simprocAttr]
      refine sap_box (n := 1) (m := 1) (by decide) (by decide) (.inr ⟨2, rfl, rfl⟩) (by simp only [List.length_cons]; omega) rfl rfl rfl (by decide) (by decide) (fun r' => ?_)
      simp -implicitDefEqProofs (maxSteps := 500000) (disch := first | decide | omega) only [↓preS, allS, decS, simprocAttr, List.take_succ_cons, List.take_zero, List.cons_append, List.nil_append, Nat.reduceMul]
      exact hQ 1000000 r' (by omega) (by omega))
  · simp -implicitDefEqProofs (maxSteps := 500000) (disch := first | decide | omega) only [↓preS, allS, decS, simprocAttr, hg, fillOk, fillAV, List.append_nil]
    unfold cc10L4
    simp -implicitDefEqProofs (maxSteps := 500000) (disch := first | decide | omega) only [↓preS, allS, decS, simprocAttr]
    repeat (refine And.intro (by omega) ?_)
    refine cloop1 ns labs pl nl r hlab hnl 1 1000000 pl[1] ps us cs _ ?_ _ (.inl rfl)
    rcases hnl with rfl | rfl <;> (
    simp only [capT]
    simp -implicitDefEqProofs (maxSteps := 500000) (disch := first | decide | omega) only [↓preS, allS, decS, simprocAttr]
    refine sbl_box (by decide) rfl rfl (fun y hy => ?_) ?_
    · simp only [ev, Regs.get, AV.cells] at hy
      simp only [↓reduceIte, Nat.reduceEqDiff, List.mem_cons, List.not_mem_nil, or_false] at hy
      rcases hy with rfl | rfl | rfl <;> rfl
    simp -implicitDefEqProofs (maxSteps := 500000) (disch := first | decide | omega) only [↓preS, allS, decS, simprocAttr]
    refine sap_box (n := 1) (m := 1) (by decide) (by decide) (.inr ⟨2, rfl, rfl⟩) (by simp only [List.length_cons]; omega) rfl rfl rfl (by decide) (by decide) (fun r' => ?_)
    simp -implicitDefEqProofs (maxSteps := 500000) (disch := first | decide | omega) only [↓preS, allS, decS, simprocAttr, List.take_succ_cons, List.take_zero, List.cons_append, List.nil_append, Nat.reduceMul]
    exact hQ 1000000 r' (by omega) (by omega))
set_option maxRecDepth 20000 in
set_option maxHeartbeats 16000000 in
theorem qstep2 (ns : List Int) (hns : ns.length < 2 ^ 62) (labs pl : List (List UInt8)) (nl r : Nat) (hlab : labs.length = nl) (hnl : nl = 1 ∨ nl = 2) (hi : 2 < pl.length) (ps : Nat → List UInt8) (us : Nat → Int) (cs : Nat → List Cap) (Q : AE → St → Prop)
    (hQ : ∀ (u : Int) (r' : Nat), 1 ≤ u → u ≤ 1000000 → Q .normal ⟨[(1, .sl false 1 (ns.map I64)), (4, .ref 0 0 0), (6, .ref 1 0 0), (7, .sl false 1 (pl.map AV.str)), (8, .int .i64 (3))], [.box [.nils, .nils], .box [.sl false 1 (labs.map AV.str), .own 8 3 0 3], .dead, .arr 2 ((cs 0).map CAP), .arr 2 ((cs 1).map CAP), .box [.str pl[2], .own 6 2 0 nl, .int .i64 u], .arr 2 ((List.replicate nl W0).map CAP), .box [.str pl[2], .own 6 2 0 nl, .int .i64 u], .box ([.str (ps 0), .own 3 2 0 nl, .int .i64 (us 0), .str (ps 1), .own 4 2 0 nl, .int .i64 (us 1), .str pl[2], .own 6 2 0 nl, .int .i64 u] ++ List.replicate r' AV.any)]⟩) :
    aw Tryd.prog cc10l5 Q ⟨[(1, .sl false 1 (ns.map I64)), (4, .ref 0 0 0), (6, .ref 1 0 0), (7, .sl false 1 (pl.map AV.str)), (8, .int .i64 ((2 : Nat)))], [.box [.nils, .nils], .box [.sl false 1 (labs.map AV.str), .own 2 3 0 2], .box ([.str (ps 0), .own 3 2 0 nl, .int .i64 (us 0), .str (ps 1), .own 4 2 0 nl, .int .i64 (us 1)] ++ List.replicate r AV.any), .arr 2 ((cs 0).map CAP), .arr 2 ((cs 1).map CAP)]⟩ := by
  unfold cc10l5
  have hg : pl.getD 2 default = pl[2] := by simp [hi]
  by_cases h1 : 2 < ns.length
  · have hgn : ns.getD 2 default = ns[2] := by simp [h1]
    have cw := within_ok ns[2] 20000 (by omega) (by omega)
    have ww := win_rng ns[2] 20000 (by omega)
    generalize win ns[2] 20000 = w at cw ww
    generalize ns[2] = v at cw hgn
    by_cases h2 : v.tmod 3 = 0
    · simp -implicitDefEqProofs (maxSteps := 500000) (disch := first | decide | omega) only [↓preS, allS, decS, simprocAttr, hg, hgn, fillOk, fillAV, List.append_nil]
      repeat (refine And.intro (by omega) ?_)
      refine acK_of (FCall.of (lent := false) (cw) (.refl rfl) rfl (by simp)) ?_
      simp -implicitDefEqProofs (maxSteps := 500000) (disch := first | decide | omega) only [↓preS, allS, decS, simprocAttr, hg, hgn, fillOk, fillAV, List.append_nil]
      unfold cc10L4
      simp -implicitDefEqProofs (maxSteps := 500000) (disch := first | decide | omega) only [↓preS, allS, decS, simprocAttr]
      repeat (refine And.intro (by omega) ?_)
      refine cloop2 ns labs pl nl r hlab hnl 2 (1 + w) pl[2] ps us cs _ ?_ _ (.inl rfl)
      rcases hnl with rfl | rfl <;> (
      simp only [capT]
      simp -implicitDefEqProofs (maxSteps := 500000) (disch := first | decide | omega) only [↓preS, allS, decS, simprocAttr]
      refine sbl_box (by decide) rfl rfl (fun y hy => ?_) ?_
      · simp only [ev, Regs.get, AV.cells] at hy
        simp only [↓reduceIte, Nat.reduceEqDiff, List.mem_cons, List.not_mem_nil, or_false] at hy
        rcases hy with rfl | rfl | rfl <;> rfl
      simp -implicitDefEqProofs (maxSteps := 500000) (disch := first | decide | omega) only [↓preS, allS, decS, simprocAttr]
      refine sap_box (n := 2) (m := 1) (by decide) (by decide) (.inr ⟨2, rfl, rfl⟩) (by simp only [List.length_cons]; omega) rfl rfl rfl (by decide) (by decide) (fun r' => ?_)
      simp -implicitDefEqProofs (maxSteps := 500000) (disch := first | decide | omega) only [↓preS, allS, decS, simprocAttr, List.take_succ_cons, List.take_zero, List.cons_append, List.nil_append, Nat.reduceMul]
      exact hQ (1 + w) r' (by omega) (by omega))
    · simp -implicitDefEqProofs (maxSteps := 500000) (disch := first | decide | omega) only [↓preS, allS, decS, simprocAttr, hg, hgn, fillOk, fillAV, List.append_nil]
      unfold cc10L4
      simp -implicitDefEqProofs (maxSteps := 500000) (disch := first | decide | omega) only [↓preS, allS, decS, simprocAttr]
      repeat (refine And.intro (by omega) ?_)
      refine cloop2 ns labs pl nl r hlab hnl 2 1000000 pl[2] ps us cs _ ?_ _ (.inl rfl)
      rcases hnl with rfl | rfl <;> (
      simp only [capT]
      simp -implicitDefEqProofs (maxSteps := 500000) (disch := first | decide | omega) only [↓preS, allS, decS, simprocAttr]
      refine sbl_box (by decide) rfl rfl (fun y hy => ?_) ?_
      · simp only [ev, Regs.get, AV.cells] at hy
        simp only [↓reduceIte, Nat.reduceEqDiff, List.mem_cons, List.not_mem_nil, or_false] at hy
        rcases hy with rfl | rfl | rfl <;> rfl
      simp -implicitDefEqProofs (maxSteps := 500000) (disch := first | decide | omega) only [↓preS, allS, decS, simprocAttr]
      refine sap_box (n := 2) (m := 1) (by decide) (by decide) (.inr ⟨2, rfl, rfl⟩) (by simp only [List.length_cons]; omega) rfl rfl rfl (by decide) (by decide) (fun r' => ?_)
      simp -implicitDefEqProofs (maxSteps := 500000) (disch := first | decide | omega) only [↓preS, allS, decS, simprocAttr, List.take_succ_cons, List.take_zero, List.cons_append, List.nil_append, Nat.reduceMul]
      exact hQ 1000000 r' (by omega) (by omega))
  · simp -implicitDefEqProofs (maxSteps := 500000) (disch := first | decide | omega) only [↓preS, allS, decS, simprocAttr, hg, fillOk, fillAV, List.append_nil]
    unfold cc10L4
    simp -implicitDefEqProofs (maxSteps := 500000) (disch := first | decide | omega) only [↓preS, allS, decS, simprocAttr]
    repeat (refine And.intro (by omega) ?_)
    refine cloop2 ns labs pl nl r hlab hnl 2 1000000 pl[2] ps us cs _ ?_ _ (.inl rfl)
    rcases hnl with rfl | rfl <;> (
    simp only [capT]
    simp -implicitDefEqProofs (maxSteps := 500000) (disch := first | decide | omega) only [↓preS, allS, decS, simprocAttr]
    refine sbl_box (by decide) rfl rfl (fun y hy => ?_) ?_
    · simp only [ev, Regs.get, AV.cells] at hy
      simp only [↓reduceIte, Nat.reduceEqDiff, List.mem_cons, List.not_mem_nil, or_false] at hy
      rcases hy with rfl | rfl | rfl <;> rfl
    simp -implicitDefEqProofs (maxSteps := 500000) (disch := first | decide | omega) only [↓preS, allS, decS, simprocAttr]
    refine sap_box (n := 2) (m := 1) (by decide) (by decide) (.inr ⟨2, rfl, rfl⟩) (by simp only [List.length_cons]; omega) rfl rfl rfl (by decide) (by decide) (fun r' => ?_)
    simp -implicitDefEqProofs (maxSteps := 500000) (disch := first | decide | omega) only [↓preS, allS, decS, simprocAttr, List.take_succ_cons, List.take_zero, List.cons_append, List.nil_append, Nat.reduceMul]
    exact hQ 1000000 r' (by omega) (by omega))
set_option maxRecDepth 20000 in
set_option maxHeartbeats 16000000 in
theorem qstep3 (ns : List Int) (hns : ns.length < 2 ^ 62) (labs pl : List (List UInt8)) (nl r : Nat) (hlab : labs.length = nl) (hnl : nl = 1 ∨ nl = 2) (hi : 3 < pl.length) (ps : Nat → List UInt8) (us : Nat → Int) (cs : Nat → List Cap) (Q : AE → St → Prop)
    (hQ : ∀ (u : Int) (r' : Nat), 1 ≤ u → u ≤ 1000000 → Q .normal ⟨[(1, .sl false 1 (ns.map I64)), (4, .ref 0 0 0), (6, .ref 1 0 0), (7, .sl false 1 (pl.map AV.str)), (8, .int .i64 (4))], [.box [.nils, .nils], .box [.sl false 1 (labs.map AV.str), .own 9 3 0 4], .dead, .arr 2 ((cs 0).map CAP), .arr 2 ((cs 1).map CAP), .arr 2 ((cs 2).map CAP), .box [.str pl[3], .own 7 2 0 nl, .int .i64 u], .arr 2 ((List.replicate nl W0).map CAP), .box [.str pl[3], .own 7 2 0 nl, .int .i64 u], .box ([.str (ps 0), .own 3 2 0 nl, .int .i64 (us 0), .str (ps 1), .own 4 2 0 nl, .int .i64 (us 1), .str (ps 2), .own 5 2 0 nl, .int .i64 (us 2), .str pl[3], .own 7 2 0 nl, .int .i64 u] ++ List.replicate r' AV.any)]⟩) :
    aw Tryd.prog cc10l5 Q ⟨[(1, .sl false 1 (ns.map I64)), (4, .ref 0 0 0), (6, .ref 1 0 0), (7, .sl false 1 (pl.map AV.str)), (8, .int .i64 ((3 : Nat)))], [.box [.nils, .nils], .box [.sl false 1 (labs.map AV.str), .own 2 3 0 3], .box ([.str (ps 0), .own 3 2 0 nl, .int .i64 (us 0), .str (ps 1), .own 4 2 0 nl, .int .i64 (us 1), .str (ps 2), .own 5 2 0 nl, .int .i64 (us 2)] ++ List.replicate r AV.any), .arr 2 ((cs 0).map CAP), .arr 2 ((cs 1).map CAP), .arr 2 ((cs 2).map CAP)]⟩ := by
  unfold cc10l5
  have hg : pl.getD 3 default = pl[3] := by simp [hi]
  by_cases h1 : 3 < ns.length
  · have hgn : ns.getD 3 default = ns[3] := by simp [h1]
    have cw := within_ok ns[3] 20000 (by omega) (by omega)
    have ww := win_rng ns[3] 20000 (by omega)
    generalize win ns[3] 20000 = w at cw ww
    generalize ns[3] = v at cw hgn
    by_cases h2 : v.tmod 3 = 0
    · simp -implicitDefEqProofs (maxSteps := 500000) (disch := first | decide | omega) only [↓preS, allS, decS, simprocAttr, hg, hgn, fillOk, fillAV, List.append_nil]
      repeat (refine And.intro (by omega) ?_)
      refine acK_of (FCall.of (lent := false) (cw) (.refl rfl) rfl (by simp)) ?_
      simp -implicitDefEqProofs (maxSteps := 500000) (disch := first | decide | omega) only [↓preS, allS, decS, simprocAttr, hg, hgn, fillOk, fillAV, List.append_nil]
      unfold cc10L4
      simp -implicitDefEqProofs (maxSteps := 500000) (disch := first | decide | omega) only [↓preS, allS, decS, simprocAttr]
      repeat (refine And.intro (by omega) ?_)
      refine cloop3 ns labs pl nl r hlab hnl 3 (1 + w) pl[3] ps us cs _ ?_ _ (.inl rfl)
      rcases hnl with rfl | rfl <;> (
      simp only [capT]
      simp -implicitDefEqProofs (maxSteps := 500000) (disch := first | decide | omega) only [↓preS, allS, decS, simprocAttr]
      refine sbl_box (by decide) rfl rfl (fun y hy => ?_) ?_
      · simp only [ev, Regs.get, AV.cells] at hy
        simp only [↓reduceIte, Nat.reduceEqDiff, List.mem_cons, List.not_mem_nil, or_false] at hy
        rcases hy with rfl | rfl | rfl <;> rfl
      simp -implicitDefEqProofs (maxSteps := 500000) (disch := first | decide | omega) only [↓preS, allS, decS, simprocAttr]
      refine sap_box (n := 3) (m := 1) (by decide) (by decide) (.inr ⟨2, rfl, rfl⟩) (by simp only [List.length_cons]; omega) rfl rfl rfl (by decide) (by decide) (fun r' => ?_)
      simp -implicitDefEqProofs (maxSteps := 500000) (disch := first | decide | omega) only [↓preS, allS, decS, simprocAttr, List.take_succ_cons, List.take_zero, List.cons_append, List.nil_append, Nat.reduceMul]
      exact hQ (1 + w) r' (by omega) (by omega))
    · simp -implicitDefEqProofs (maxSteps := 500000) (disch := first | decide | omega) only [↓preS, allS, decS, simprocAttr, hg, hgn, fillOk, fillAV, List.append_nil]
      unfold cc10L4
      simp -implicitDefEqProofs (maxSteps := 500000) (disch := first | decide | omega) only [↓preS, allS, decS, simprocAttr]
      repeat (refine And.intro (by omega) ?_)
      refine cloop3 ns labs pl nl r hlab hnl 3 1000000 pl[3] ps us cs _ ?_ _ (.inl rfl)
      rcases hnl with rfl | rfl <;> (
      simp only [capT]
      simp -implicitDefEqProofs (maxSteps := 500000) (disch := first | decide | omega) only [↓preS, allS, decS, simprocAttr]
      refine sbl_box (by decide) rfl rfl (fun y hy => ?_) ?_
      · simp only [ev, Regs.get, AV.cells] at hy
        simp only [↓reduceIte, Nat.reduceEqDiff, List.mem_cons, List.not_mem_nil, or_false] at hy
        rcases hy with rfl | rfl | rfl <;> rfl
      simp -implicitDefEqProofs (maxSteps := 500000) (disch := first | decide | omega) only [↓preS, allS, decS, simprocAttr]
      refine sap_box (n := 3) (m := 1) (by decide) (by decide) (.inr ⟨2, rfl, rfl⟩) (by simp only [List.length_cons]; omega) rfl rfl rfl (by decide) (by decide) (fun r' => ?_)
      simp -implicitDefEqProofs (maxSteps := 500000) (disch := first | decide | omega) only [↓preS, allS, decS, simprocAttr, List.take_succ_cons, List.take_zero, List.cons_append, List.nil_append, Nat.reduceMul]
      exact hQ 1000000 r' (by omega) (by omega))
  · simp -implicitDefEqProofs (maxSteps := 500000) (disch := first | decide | omega) only [↓preS, allS, decS, simprocAttr, hg, fillOk, fillAV, List.append_nil]
    unfold cc10L4
    simp -implicitDefEqProofs (maxSteps := 500000) (disch := first | decide | omega) only [↓preS, allS, decS, simprocAttr]
    repeat (refine And.intro (by omega) ?_)
    refine cloop3 ns labs pl nl r hlab hnl 3 1000000 pl[3] ps us cs _ ?_ _ (.inl rfl)
    rcases hnl with rfl | rfl <;> (
    simp only [capT]
    simp -implicitDefEqProofs (maxSteps := 500000) (disch := first | decide | omega) only [↓preS, allS, decS, simprocAttr]
    refine sbl_box (by decide) rfl rfl (fun y hy => ?_) ?_
    · simp only [ev, Regs.get, AV.cells] at hy
      simp only [↓reduceIte, Nat.reduceEqDiff, List.mem_cons, List.not_mem_nil, or_false] at hy
      rcases hy with rfl | rfl | rfl <;> rfl
    simp -implicitDefEqProofs (maxSteps := 500000) (disch := first | decide | omega) only [↓preS, allS, decS, simprocAttr]
    refine sap_box (n := 3) (m := 1) (by decide) (by decide) (.inr ⟨2, rfl, rfl⟩) (by simp only [List.length_cons]; omega) rfl rfl rfl (by decide) (by decide) (fun r' => ?_)
    simp -implicitDefEqProofs (maxSteps := 500000) (disch := first | decide | omega) only [↓preS, allS, decS, simprocAttr, List.take_succ_cons, List.take_zero, List.cons_append, List.nil_append, Nat.reduceMul]
    exact hQ 1000000 r' (by omega) (by omega))
set_option maxRecDepth 20000 in
set_option maxHeartbeats 16000000 in
theorem qstep4 (ns : List Int) (hns : ns.length < 2 ^ 62) (labs pl : List (List UInt8)) (nl r : Nat) (hlab : labs.length = nl) (hnl : nl = 1 ∨ nl = 2) (hi : 4 < pl.length) (ps : Nat → List UInt8) (us : Nat → Int) (cs : Nat → List Cap) (Q : AE → St → Prop)
    (hQ : ∀ (u : Int) (r' : Nat), 1 ≤ u → u ≤ 1000000 → Q .normal ⟨[(1, .sl false 1 (ns.map I64)), (4, .ref 0 0 0), (6, .ref 1 0 0), (7, .sl false 1 (pl.map AV.str)), (8, .int .i64 (5))], [.box [.nils, .nils], .box [.sl false 1 (labs.map AV.str), .own 10 3 0 5], .dead, .arr 2 ((cs 0).map CAP), .arr 2 ((cs 1).map CAP), .arr 2 ((cs 2).map CAP), .arr 2 ((cs 3).map CAP), .box [.str pl[4], .own 8 2 0 nl, .int .i64 u], .arr 2 ((List.replicate nl W0).map CAP), .box [.str pl[4], .own 8 2 0 nl, .int .i64 u], .box ([.str (ps 0), .own 3 2 0 nl, .int .i64 (us 0), .str (ps 1), .own 4 2 0 nl, .int .i64 (us 1), .str (ps 2), .own 5 2 0 nl, .int .i64 (us 2), .str (ps 3), .own 6 2 0 nl, .int .i64 (us 3), .str pl[4], .own 8 2 0 nl, .int .i64 u] ++ List.replicate r' AV.any)]⟩) :
    aw Tryd.prog cc10l5 Q ⟨[(1, .sl false 1 (ns.map I64)), (4, .ref 0 0 0), (6, .ref 1 0 0), (7, .sl false 1 (pl.map AV.str)), (8, .int .i64 ((4 : Nat)))], [.box [.nils, .nils], .box [.sl false 1 (labs.map AV.str), .own 2 3 0 4], .box ([.str (ps 0), .own 3 2 0 nl, .int .i64 (us 0), .str (ps 1), .own 4 2 0 nl, .int .i64 (us 1), .str (ps 2), .own 5 2 0 nl, .int .i64 (us 2), .str (ps 3), .own 6 2 0 nl, .int .i64 (us 3)] ++ List.replicate r AV.any), .arr 2 ((cs 0).map CAP), .arr 2 ((cs 1).map CAP), .arr 2 ((cs 2).map CAP), .arr 2 ((cs 3).map CAP)]⟩ := by
  unfold cc10l5
  have hg : pl.getD 4 default = pl[4] := by simp [hi]
  by_cases h1 : 4 < ns.length
  · have hgn : ns.getD 4 default = ns[4] := by simp [h1]
    have cw := within_ok ns[4] 20000 (by omega) (by omega)
    have ww := win_rng ns[4] 20000 (by omega)
    generalize win ns[4] 20000 = w at cw ww
    generalize ns[4] = v at cw hgn
    by_cases h2 : v.tmod 3 = 0
    · simp -implicitDefEqProofs (maxSteps := 500000) (disch := first | decide | omega) only [↓preS, allS, decS, simprocAttr, hg, hgn, fillOk, fillAV, List.append_nil]
      repeat (refine And.intro (by omega) ?_)
      refine acK_of (FCall.of (lent := false) (cw) (.refl rfl) rfl (by simp)) ?_
      simp -implicitDefEqProofs (maxSteps := 500000) (disch := first | decide | omega) only [↓preS, allS, decS, simprocAttr, hg, hgn, fillOk, fillAV, List.append_nil]
      unfold cc10L4
      simp -implicitDefEqProofs (maxSteps := 500000) (disch := first | decide | omega) only [↓preS, allS, decS, simprocAttr]
      repeat (refine And.intro (by omega) ?_)
      refine cloop4 ns labs pl nl r hlab hnl 4 (1 + w) pl[4] ps us cs _ ?_ _ (.inl rfl)
      rcases hnl with rfl | rfl <;> (
      simp only [capT]
      simp -implicitDefEqProofs (maxSteps := 500000) (disch := first | decide | omega) only [↓preS, allS, decS, simprocAttr]
      refine sbl_box (by decide) rfl rfl (fun y hy => ?_) ?_
      · simp only [ev, Regs.get, AV.cells] at hy
        simp only [↓reduceIte, Nat.reduceEqDiff, List.mem_cons, List.not_mem_nil, or_false] at hy
        rcases hy with rfl | rfl | rfl <;> rfl
      simp -implicitDefEqProofs (maxSteps := 500000) (disch := first | decide | omega) only [↓preS, allS, decS, simprocAttr]
      refine sap_box (n := 4) (m := 1) (by decide) (by decide) (.inr ⟨2, rfl, rfl⟩) (by simp only [List.length_cons]; omega) rfl rfl rfl (by decide) (by decide) (fun r' => ?_)
      simp -implicitDefEqProofs (maxSteps := 500000) (disch := first | decide | omega) only [↓preS, allS, decS, simprocAttr, List.take_succ_cons, List.take_zero, List.cons_append, List.nil_append, Nat.reduceMul]
      exact hQ (1 + w) r' (by omega) (by omega))
    · simp -implicitDefEqProofs (maxSteps := 500000) (disch := first | decide | omega) only [↓preS, allS, decS, simprocAttr, hg, hgn, fillOk, fillAV, List.append_nil]
      unfold cc10L4
      simp -implicitDefEqProofs (maxSteps := 500000) (disch := first | decide | omega) only [↓preS, allS, decS, simprocAttr]
      repeat (refine And.intro (by omega) ?_)
      refine cloop4 ns labs pl nl r hlab hnl 4 1000000 pl[4] ps us cs _ ?_ _ (.inl rfl)
      rcases hnl with rfl | rfl <;> (
      simp only [capT]
      simp -implicitDefEqProofs (maxSteps := 500000) (disch := first | decide | omega) only [↓preS, allS, decS, simprocAttr]
      refine sbl_box (by decide) rfl rfl (fun y hy => ?_) ?_
      · simp only [ev, Regs.get, AV.cells] at hy
        simp only [↓reduceIte, Nat.reduceEqDiff, List.mem_cons, List.not_mem_nil, or_false] at hy
        rcases hy with rfl | rfl | rfl <;> rfl
      simp -implicitDefEqProofs (maxSteps := 500000) (disch := first | decide | omega) only [↓preS, allS, decS, simprocAttr]
      refine sap_box (n := 4) (m := 1) (by decide) (by decide) (.inr ⟨2, rfl, rfl⟩) (by simp only [List.length_cons]; omega) rfl rfl rfl (by decide) (by decide) (fun r' => ?_)
      simp -implicitDefEqProofs (maxSteps := 500000) (disch := first | decide | omega) only [↓preS, allS, decS, simprocAttr, List.take_succ_cons, List.take_zero, List.cons_append, List.nil_append, Nat.reduceMul]
      exact hQ 1000000 r' (by omega) (by omega))
  · simp -implicitDefEqProofs (maxSteps := 500000) (disch := first | decide | omega) only [↓preS, allS, decS, simprocAttr, hg, fillOk, fillAV, List.append_nil]
    unfold cc10L4
    simp -implicitDefEqProofs (maxSteps := 500000) (disch := first | decide | omega) only [↓preS, allS, decS, simprocAttr]
    repeat (refine And.intro (by omega) ?_)
    refine cloop4 ns labs pl nl r hlab hnl 4 1000000 pl[4] ps us cs _ ?_ _ (.inl rfl)
    rcases hnl with rfl | rfl <;> (
    simp only [capT]
    simp -implicitDefEqProofs (maxSteps := 500000) (disch := first | decide | omega) only [↓preS, allS, decS, simprocAttr]
    refine sbl_box (by decide) rfl rfl (fun y hy => ?_) ?_
    · simp only [ev, Regs.get, AV.cells] at hy
      simp only [↓reduceIte, Nat.reduceEqDiff, List.mem_cons, List.not_mem_nil, or_false] at hy
      rcases hy with rfl | rfl | rfl <;> rfl
    simp -implicitDefEqProofs (maxSteps := 500000) (disch := first | decide | omega) only [↓preS, allS, decS, simprocAttr]
    refine sap_box (n := 4) (m := 1) (by decide) (by decide) (.inr ⟨2, rfl, rfl⟩) (by simp only [List.length_cons]; omega) rfl rfl rfl (by decide) (by decide) (fun r' => ?_)
    simp -implicitDefEqProofs (maxSteps := 500000) (disch := first | decide | omega) only [↓preS, allS, decS, simprocAttr, List.take_succ_cons, List.take_zero, List.cons_append, List.nil_append, Nat.reduceMul]
    exact hQ 1000000 r' (by omega) (by omega))
set_option maxRecDepth 20000 in
set_option maxHeartbeats 16000000 in
theorem qstep5 (ns : List Int) (hns : ns.length < 2 ^ 62) (labs pl : List (List UInt8)) (nl r : Nat) (hlab : labs.length = nl) (hnl : nl = 1 ∨ nl = 2) (hi : 5 < pl.length) (ps : Nat → List UInt8) (us : Nat → Int) (cs : Nat → List Cap) (Q : AE → St → Prop)
    (hQ : ∀ (u : Int) (r' : Nat), 1 ≤ u → u ≤ 1000000 → Q .normal ⟨[(1, .sl false 1 (ns.map I64)), (4, .ref 0 0 0), (6, .ref 1 0 0), (7, .sl false 1 (pl.map AV.str)), (8, .int .i64 (6))], [.box [.nils, .nils], .box [.sl false 1 (labs.map AV.str), .own 11 3 0 6], .dead, .arr 2 ((cs 0).map CAP), .arr 2 ((cs 1).map CAP), .arr 2 ((cs 2).map CAP), .arr 2 ((cs 3).map CAP), .arr 2 ((cs 4).map CAP), .box [.str pl[5], .own 9 2 0 nl, .int .i64 u], .arr 2 ((List.replicate nl W0).map CAP), .box [.str pl[5], .own 9 2 0 nl, .int .i64 u], .box ([.str (ps 0), .own 3 2 0 nl, .int .i64 (us 0), .str (ps 1), .own 4 2 0 nl, .int .i64 (us 1), .str (ps 2), .own 5 2 0 nl, .int .i64 (us 2), .str (ps 3), .own 6 2 0 nl, .int .i64 (us 3), .str (ps 4), .own 7 2 0 nl, .int .i64 (us 4), .str pl[5], .own 9 2 0 nl, .int .i64 u] ++ List.replicate r' AV.any)]⟩) :
    aw Tryd.prog cc10l5 Q ⟨[(1, .sl false 1 (ns.map I64)), (4, .ref 0 0 0), (6, .ref 1 0 0), (7, .sl false 1 (pl.map AV.str)), (8, .int .i64 ((5 : Nat)))], [.box [.nils, .nils], .box [.sl false 1 (labs.map AV.str), .own 2 3 0 5], .box ([.str (ps 0), .own 3 2 0 nl, .int .i64 (us 0), .str (ps 1), .own 4 2 0 nl, .int .i64 (us 1), .str (ps 2), .own 5 2 0 nl, .int .i64 (us 2), .str (ps 3), .own 6 2 0 nl, .int .i64 (us 3), .str (ps 4), .own 7 2 0 nl, .int .i64 (us 4)] ++ List.replicate r AV.any), .arr 2 ((cs 0).map CAP), .arr 2 ((cs 1).map CAP), .arr 2 ((cs 2).map CAP), .arr 2 ((cs 3).map CAP), .arr 2 ((cs 4).map CAP)]⟩ := by
  unfold cc10l5
  have hg : pl.getD 5 default = pl[5] := by simp [hi]
  by_cases h1 : 5 < ns.length
  · have hgn : ns.getD 5 default = ns[5] := by simp [h1]
    have cw := within_ok ns[5] 20000 (by omega) (by omega)
    have ww := win_rng ns[5] 20000 (by omega)
    generalize win ns[5] 20000 = w at cw ww
    generalize ns[5] = v at cw hgn
    by_cases h2 : v.tmod 3 = 0
    · simp -implicitDefEqProofs (maxSteps := 500000) (disch := first | decide | omega) only [↓preS, allS, decS, simprocAttr, hg, hgn, fillOk, fillAV, List.append_nil]
      repeat (refine And.intro (by omega) ?_)
      refine acK_of (FCall.of (lent := false) (cw) (.refl rfl) rfl (by simp)) ?_
      simp -implicitDefEqProofs (maxSteps := 500000) (disch := first | decide | omega) only [↓preS, allS, decS, simprocAttr, hg, hgn, fillOk, fillAV, List.append_nil]
      unfold cc10L4
      simp -implicitDefEqProofs (maxSteps := 500000) (disch := first | decide | omega) only [↓preS, allS, decS, simprocAttr]
      repeat (refine And.intro (by omega) ?_)
      refine cloop5 ns labs pl nl r hlab hnl 5 (1 + w) pl[5] ps us cs _ ?_ _ (.inl rfl)
      rcases hnl with rfl | rfl <;> (
      simp only [capT]
      simp -implicitDefEqProofs (maxSteps := 500000) (disch := first | decide | omega) only [↓preS, allS, decS, simprocAttr]
      refine sbl_box (by decide) rfl rfl (fun y hy => ?_) ?_
      · simp only [ev, Regs.get, AV.cells] at hy
        simp only [↓reduceIte, Nat.reduceEqDiff, List.mem_cons, List.not_mem_nil, or_false] at hy
        rcases hy with rfl | rfl | rfl <;> rfl
      simp -implicitDefEqProofs (maxSteps := 500000) (disch := first | decide | omega) only [↓preS, allS, decS, simprocAttr]
      refine sap_box (n := 5) (m := 1) (by decide) (by decide) (.inr ⟨2, rfl, rfl⟩) (by simp only [List.length_cons]; omega) rfl rfl rfl (by decide) (by decide) (fun r' => ?_)
      simp -implicitDefEqProofs (maxSteps := 500000) (disch := first | decide | omega) only [↓preS, allS, decS, simprocAttr, List.take_succ_cons, List.take_zero, List.cons_append, List.nil_append, Nat.reduceMul]
      exact hQ (1 + w) r' (by omega) (by omega))
    · simp -implicitDefEqProofs (maxSteps := 500000) (disch := first | decide | omega) only [↓preS, allS, decS, simprocAttr, hg, hgn, fillOk, fillAV, List.append_nil]
      unfold cc10L4
      simp -implicitDefEqProofs (maxSteps := 500000) (disch := first | decide | omega) only [↓preS, allS, decS, simprocAttr]
      repeat (refine And.intro (by omega) ?_)
      refine cloop5 ns labs pl nl r hlab hnl 5 1000000 pl[5] ps us cs _ ?_ _ (.inl rfl)
      rcases hnl with rfl | rfl <;> (
      simp only [capT]
      simp -implicitDefEqProofs (maxSteps := 500000) (disch := first | decide | omega) only [↓preS, allS, decS, simprocAttr]
      refine sbl_box (by decide) rfl rfl (fun y hy => ?_) ?_
      · simp only [ev, Regs.get, AV.cells] at hy
        simp only [↓reduceIte, Nat.reduceEqDiff, List.mem_cons, List.not_mem_nil, or_false] at hy
        rcases hy with rfl | rfl | rfl <;> rfl
      simp -implicitDefEqProofs (maxSteps := 500000) (disch := first | decide | omega) only [↓preS, allS, decS, simprocAttr]
      refine sap_box (n := 5) (m := 1) (by decide) (by decide) (.inr ⟨2, rfl, rfl⟩) (by simp only [List.length_cons]; omega) rfl rfl rfl (by decide) (by decide) (fun r' => ?_)
      simp -implicitDefEqProofs (maxSteps := 500000) (disch := first | decide | omega) only [↓preS, allS, decS, simprocAttr, List.take_succ_cons, List.take_zero, List.cons_append, List.nil_append, Nat.reduceMul]
      exact hQ 1000000 r' (by omega) (by omega))
  · simp -implicitDefEqProofs (maxSteps := 500000) (disch := first | decide | omega) only [↓preS, allS, decS, simprocAttr, hg, fillOk, fillAV, List.append_nil]
    unfold cc10L4
    simp -implicitDefEqProofs (maxSteps := 500000) (disch := first | decide | omega) only [↓preS, allS, decS, simprocAttr]
    repeat (refine And.intro (by omega) ?_)
    refine cloop5 ns labs pl nl r hlab hnl 5 1000000 pl[5] ps us cs _ ?_ _ (.inl rfl)
    rcases hnl with rfl | rfl <;> (
    simp only [capT]
    simp -implicitDefEqProofs (maxSteps := 500000) (disch := first | decide | omega) only [↓preS, allS, decS, simprocAttr]
    refine sbl_box (by decide) rfl rfl (fun y hy => ?_) ?_
    · simp only [ev, Regs.get, AV.cells] at hy
      simp only [↓reduceIte, Nat.reduceEqDiff, List.mem_cons, List.not_mem_nil, or_false] at hy
      rcases hy with rfl | rfl | rfl <;> rfl
    simp -implicitDefEqProofs (maxSteps := 500000) (disch := first | decide | omega) only [↓preS, allS, decS, simprocAttr]
    refine sap_box (n := 5) (m := 1) (by decide) (by decide) (.inr ⟨2, rfl, rfl⟩) (by simp only [List.length_cons]; omega) rfl rfl rfl (by decide) (by decide) (fun r' => ?_)
    simp -implicitDefEqProofs (maxSteps := 500000) (disch := first | decide | omega) only [↓preS, allS, decS, simprocAttr, List.take_succ_cons, List.take_zero, List.cons_append, List.nil_append, Nat.reduceMul]
    exact hQ 1000000 r' (by omega) (by omega))
set_option maxRecDepth 20000 in
set_option maxHeartbeats 16000000 in
theorem qstep6 (ns : List Int) (hns : ns.length < 2 ^ 62) (labs pl : List (List UInt8)) (nl r : Nat) (hlab : labs.length = nl) (hnl : nl = 1 ∨ nl = 2) (hi : 6 < pl.length) (ps : Nat → List UInt8) (us : Nat → Int) (cs : Nat → List Cap) (Q : AE → St → Prop)
    (hQ : ∀ (u : Int) (r' : Nat), 1 ≤ u → u ≤ 1000000 → Q .normal ⟨[(1, .sl false 1 (ns.map I64)), (4, .ref 0 0 0), (6, .ref 1 0 0), (7, .sl false 1 (pl.map AV.str)), (8, .int .i64 (7))], [.box [.nils, .nils], .box [.sl false 1 (labs.map AV.str), .own 12 3 0 7], .dead, .arr 2 ((cs 0).map CAP), .arr 2 ((cs 1).map CAP), .arr 2 ((cs 2).map CAP), .arr 2 ((cs 3).map CAP), .arr 2 ((cs 4).map CAP), .arr 2 ((cs 5).map CAP), .box [.str pl[6], .own 10 2 0 nl, .int .i64 u], .arr 2 ((List.replicate nl W0).map CAP), .box [.str pl[6], .own 10 2 0 nl, .int .i64 u], .box ([.str (ps 0), .own 3 2 0 nl, .int .i64 (us 0), .str (ps 1), .own 4 2 0 nl, .int .i64 (us 1), .str (ps 2), .own 5 2 0 nl, .int .i64 (us 2), .str (ps 3), .own 6 2 0 nl, .int .i64 (us 3), .str (ps 4), .own 7 2 0 nl, .int .i64 (us 4), .str (ps 5), .own 8 2 0 nl, .int .i64 (us 5), .str pl[6], .own 10 2 0 nl, .int .i64 u] ++ List.replicate r' AV.any)]⟩) :
    aw Tryd.prog cc10l5 Q ⟨[(1, .sl false 1 (ns.map I64)), (4, .ref 0 0 0), (6, .ref 1 0 0), (7, .sl false 1 (pl.map AV.str)), (8, .int .i64 ((6 : Nat)))], [.box [.nils, .nils], .box [.sl false 1 (labs.map AV.str), .own 2 3 0 6], .box ([.str (ps 0), .own 3 2 0 nl, .int .i64 (us 0), .str (ps 1), .own 4 2 0 nl, .int .i64 (us 1), .str (ps 2), .own 5 2 0 nl, .int .i64 (us 2), .str (ps 3), .own 6 2 0 nl, .int .i64 (us 3), .str (ps 4), .own 7 2 0 nl, .int .i64 (us 4), .str (ps 5), .own 8 2 0 nl, .int .i64 (us 5)] ++ List.replicate r AV.any), .arr 2 ((cs 0).map CAP), .arr 2 ((cs 1).map CAP), .arr 2 ((cs 2).map CAP), .arr 2 ((cs 3).map CAP), .arr 2 ((cs 4).map CAP), .arr 2 ((cs 5).map CAP)]⟩ := by
  unfold cc10l5
  have hg : pl.getD 6 default = pl[6] := by simp [hi]
  by_cases h1 : 6 < ns.length
  · have hgn : ns.getD 6 default = ns[6] := by simp [h1]
    have cw := within_ok ns[6] 20000 (by omega) (by omega)
    have ww := win_rng ns[6] 20000 (by omega)
    generalize win ns[6] 20000 = w at cw ww
    generalize ns[6] = v at cw hgn
    by_cases h2 : v.tmod 3 = 0
    · simp -implicitDefEqProofs (maxSteps := 500000) (disch := first | decide | omega) only [↓preS, allS, decS, simprocAttr, hg, hgn, fillOk, fillAV, List.append_nil]
      repeat (refine And.intro (by omega) ?_)
      refine acK_of (FCall.of (lent := false) (cw) (.refl rfl) rfl (by simp)) ?_
      simp -implicitDefEqProofs (maxSteps := 500000) (disch := first | decide | omega) only [↓preS, allS, decS, simprocAttr, hg, hgn, fillOk, fillAV, List.append_nil]
      unfold cc10L4
      simp -implicitDefEqProofs (maxSteps := 500000) (disch := first | decide | omega) only [↓preS, allS, decS, simprocAttr]
      repeat (refine And.intro (by omega) ?_)
      refine cloop6 ns labs pl nl r hlab hnl 6 (1 + w) pl[6] ps us cs _ ?_ _ (.inl rfl)
      rcases hnl with rfl | rfl <;> (
      simp only [capT]
      simp -implicitDefEqProofs (maxSteps := 500000) (disch := first | decide | omega) only [↓preS, allS, decS, simprocAttr]
      refine sbl_box (by decide) rfl rfl (fun y hy => ?_) ?_
      · simp only [ev, Regs.get, AV.cells] at hy
        simp only [↓reduceIte, Nat.reduceEqDiff, List.mem_cons, List.not_mem_nil, or_false] at hy
        rcases hy with rfl | rfl | rfl <;> rfl
      simp -implicitDefEqProofs (maxSteps := 500000) (disch := first | decide | omega) only [↓preS, allS, decS, simprocAttr]
      refine sap_box (n := 6) (m := 1) (by decide) (by decide) (.inr ⟨2, rfl, rfl⟩) (by simp only [List.length_cons]; omega) rfl rfl rfl (by decide) (by decide) (fun r' => ?_)
      simp -implicitDefEqProofs (maxSteps := 500000) (disch := first | decide | omega) only [↓preS, allS, decS, simprocAttr, List.take_succ_cons, List.take_zero, List.cons_append, List.nil_append, Nat.reduceMul]
      exact hQ (1 + w) r' (by omega) (by omega))
    · simp -implicitDefEqProofs (maxSteps := 500000) (disch := first | decide | omega) only [↓preS, allS, decS, simprocAttr, hg, hgn, fillOk, fillAV, List.append_nil]
      unfold cc10L4
      simp -implicitDefEqProofs (maxSteps := 500000) (disch := first | decide | omega) only [↓preS, allS, decS, simprocAttr]
      repeat (refine And.intro (by omega) ?_)
      refine cloop6 ns labs pl nl r hlab hnl 6 1000000 pl[6] ps us cs _ ?_ _ (.inl rfl)
      rcases hnl with rfl | rfl <;> (
      simp only [capT]
      simp -implicitDefEqProofs (maxSteps := 500000) (disch := first | decide | omega) only [↓preS, allS, decS, simprocAttr]
      refine sbl_box (by decide) rfl rfl (fun y hy => ?_) ?_
      · simp only [ev, Regs.get, AV.cells] at hy
        simp only [↓reduceIte, Nat.reduceEqDiff, List.mem_cons, List.not_mem_nil, or_false] at hy
        rcases hy with rfl | rfl | rfl <;> rfl
      simp -implicitDefEqProofs (maxSteps := 500000) (disch := first | decide | omega) only [↓preS, allS, decS, simprocAttr]
      refine sap_box (n := 6) (m := 1) (by decide) (by decide) (.inr ⟨2, rfl, rfl⟩) (by simp only [List.length_cons]; omega) rfl rfl rfl (by decide) (by decide) (fun r' => ?_)
      simp -implicitDefEqProofs (maxSteps := 500000) (disch := first | decide | omega) only [↓preS, allS, decS, simprocAttr, List.take_succ_cons, List.take_zero, List.cons_append, List.nil_append, Nat.reduceMul]
      exact hQ 1000000 r' (by omega) (by omega))
  · simp -implicitDefEqProofs (maxSteps := 500000) (disch := first | decide | omega) only [↓preS, allS, decS, simprocAttr, hg, fillOk, fillAV, List.append_nil]
    unfold cc10L4
    simp -implicitDefEqProofs (maxSteps := 500000) (disch := first | decide | omega) only [↓preS, allS, decS, simprocAttr]
    repeat (refine And.intro (by omega) ?_)
    refine cloop6 ns labs pl nl r hlab hnl 6 1000000 pl[6] ps us cs _ ?_ _ (.inl rfl)
    rcases hnl with rfl | rfl <;> (
    simp only [capT]
    simp -implicitDefEqProofs (maxSteps := 500000) (disch := first | decide | omega) only [↓preS, allS, decS, simprocAttr]
    refine sbl_box (by decide) rfl rfl (fun y hy => ?_) ?_
    · simp only [ev, Regs.get, AV.cells] at hy
      simp only [↓reduceIte, Nat.reduceEqDiff, List.mem_cons, List.not_mem_nil, or_false] at hy
      rcases hy with rfl | rfl | rfl <;> rfl
    simp -implicitDefEqProofs (maxSteps := 500000) (disch := first | decide | omega) only [↓preS, allS, decS, simprocAttr]
    refine sap_box (n := 6) (m := 1) (by decide) (by decide) (.inr ⟨2, rfl, rfl⟩) (by simp only [List.length_cons]; omega) rfl rfl rfl (by decide) (by decide) (fun r' => ?_)
    simp -implicitDefEqProofs (maxSteps := 500000) (disch := first | decide | omega) only [↓preS, allS, decS, simprocAttr, List.take_succ_cons, List.take_zero, List.cons_append, List.nil_append, Nat.reduceMul]
    exact hQ 1000000 r' (by omega) (by omega))
end Go.Proofs.YtcplpegahpmnjaaDoor
