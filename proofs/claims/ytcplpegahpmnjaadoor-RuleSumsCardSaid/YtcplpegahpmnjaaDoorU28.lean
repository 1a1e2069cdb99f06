/- What functions of the program compute. No condition. -/
import Derived.Test.YtcplpegahpmnjaaDoorU24
import Derived.Test.YtcplpegahpmnjaaDoorU27
set_option linter.unusedSimpArgs false
set_option linter.unusedVariables false
namespace Go.Proofs.YtcplpegahpmnjaaDoor
open Go Go.Ab
def tree0 : List (List UInt8) := [[114, 111, 111, 116]]
def tree1 : List (List UInt8) := [[114, 111, 111, 116], [114, 111, 111, 116, 46, 97], [114, 111, 111, 116, 46, 98]]
def tree2 : List (List UInt8) := [[114, 111, 111, 116], [114, 111, 111, 116, 46, 97], [114, 111, 111, 116, 46, 97, 46, 120], [114, 111, 111, 116, 46, 97, 46, 121], [114, 111, 111, 116, 46, 98]]
def tree3 : List (List UInt8) := [[114, 111, 111, 116], [114, 111, 111, 116, 46, 97], [114, 111, 111, 116, 46, 98], [114, 111, 111, 116, 46, 98, 46, 120], [114, 111, 111, 116, 46, 98, 46, 120, 46, 112], [114, 111, 111, 116, 46, 98, 46, 120, 46, 113], [114, 111, 111, 116, 46, 99]]
def tree4 : List (List UInt8) := [[114, 111, 111, 116], [114, 111, 111, 116, 46, 97]]
def psT (pl : List (List UInt8)) (q : Nat) : List UInt8 := pl.getD q default
theorem psT_len {pl : List (List UInt8)} (h : ∀ x ∈ pl, x.length ≤ 2 ^ 40) (q : Nat) : (psT pl q).length ≤ 2 ^ 40 := by
  unfold psT
  rw [List.getD_eq_getElem?_getD]
  by_cases hq : q < pl.length
  · rw [List.getElem?_eq_getElem hq]
    exact h _ (List.getElem_mem hq)
  · rw [List.getElem?_eq_none (by omega)]
    show ([] : List UInt8).length ≤ _
    simp
theorem psT_get {pl : List (List UInt8)} (q : Nat) (h : q < pl.length) : pl[q] = psT pl q := by
  unfold psT
  rw [List.getD_eq_getElem?_getD, List.getElem?_eq_getElem h]
  rfl
theorem part_sl {t : Bool} {z : Nat} {l : List AV} : partOf (AV.sl t z l).cells 0 1 false = .sl t z l := rfl
set_option maxRecDepth 20000 in
set_option maxHeartbeats 16000000 in
theorem good32_0 (shape : Int) (ns : List Int) (hns : ns.length < 2 ^ 62) (labs : List (List UInt8)) (nl : Nat) (hlab : labs.length = nl) (hnl : nl = 1 ∨ nl = 2) (hw : win shape 5 = 0) (Q : AV → List AO → Prop)
    (hQ : ∀ (r : Nat) (us : Nat → Int) (cs0 cs : Nat → List Cap), (∀ q, q < 1 → cs0 q = List.replicate nl W0 ∧ 1 ≤ us q ∧ us q ≤ 1000000) → (∀ q, q < 1 → (cs q).length = nl) → Il (psT tree0) 1 (fun i => kidsX (tree0.getD i default) [⟨psT tree0 0, .any, us 0⟩]) nl cs0 tree0.length cs → Q (.agg [.sl false 1 (labs.map AV.str), .own 2 3 0 1]) ([.box [.sl false 1 (labs.map AV.str), .own 2 3 0 1]] ++ [.box [.nils, .nils], .box [.sl false 1 (labs.map AV.str), .own 2 3 0 1], .box ([.str (psT tree0 0), .own 3 2 0 nl, .int .i64 (us 0)] ++ List.replicate r AV.any), .arr 2 ((cs 0).map CAP)].tail)) :
    aw Tryd.prog cc10T32 (retR [RV.ce 4 27 2 true] Q) ⟨[(0, .int .i64 shape), (1, .sl false 1 (ns.map I64)), (4, .ref 0 0 0), (5, .own 6 1 0 5), (6, .ref 8 0 0)], [.box [.nils, .nils], .dead, .dead, .dead, .dead, .dead, .arr 1 [.sl false 1 [.str [114, 111, 111, 116]], .sl false 1 [.str [114, 111, 111, 116], .str [114, 111, 111, 116, 46, 97], .str [114, 111, 111, 116, 46, 98]], .sl false 1 [.str [114, 111, 111, 116], .str [114, 111, 111, 116, 46, 97], .str [114, 111, 111, 116, 46, 97, 46, 120], .str [114, 111, 111, 116, 46, 97, 46, 121], .str [114, 111, 111, 116, 46, 98]], .sl false 1 [.str [114, 111, 111, 116], .str [114, 111, 111, 116, 46, 97], .str [114, 111, 111, 116, 46, 98], .str [114, 111, 111, 116, 46, 98, 46, 120], .str [114, 111, 111, 116, 46, 98, 46, 120, 46, 112], .str [114, 111, 111, 116, 46, 98, 46, 120, 46, 113], .str [114, 111, 111, 116, 46, 99]], .sl false 1 [.str [114, 111, 111, 116], .str [114, 111, 111, 116, 46, 97]]], .dead, .box [.sl false 1 (labs.map AV.str), .nils]]⟩ := by
  unfold cc10T32
  have c1 := within_ok shape 5 (by omega) (by omega)
  rw [hw] at c1
  simp -implicitDefEqProofs (maxSteps := 500000) (disch := first | decide | omega) only [↓preS, allS, decS, simprocAttr]
  refine acK_of (FCall.of (lent := false) (c1) (.refl rfl) rfl (by simp)) ?_
  simp -implicitDefEqProofs (maxSteps := 500000) (disch := first | decide | omega) only [↓preS, allS, decS, simprocAttr, ldo_cons1, part_sl, List.getD_cons_zero, List.getD_cons_succ]
  first | refine And.intro (by decide) ?_ | skip
  unfold cc10L5
  simp -implicitDefEqProofs (maxSteps := 500000) (disch := first | decide | omega) only [↓preS, allS, decS, simprocAttr]
  refine qloop1 ns hns labs tree0 nl hlab hnl rfl (psT tree0) (fun q h => psT_get q h) (fun _ => 0) (fun _ => []) _ (fun r us cs0 hcs0 => ?_) _ (by unfold PQ1 tree0; simp only [List.map_cons, List.map_nil]; (refine Sub.ofL [some 0, some 8] rfl (by simp) (by decide) (by simp [partL, AO.ro, AV.ro, AV.roL, names, AO.empty, SB, U8, SI, I64, STR] <;> (try and_intros) <;> rfl) (by simp [AO.bo, AV.bo, AV.boL, names] <;> (try and_intros) <;> rfl) ?_ <;> (try simp only [List.map_cons, List.map_nil, regsL, AV.ro, AV.roL, AV.bo, AV.boL, names, get_here, get_there, Nat.reduceBEq, List.getD_cons_zero, List.getD_cons_succ, List.getD_nil, and_true, true_and, Nat.reduceLT, List.length_cons, List.length_nil, Nat.reduceAdd, decide_true, Option.isSome_some, Bool.true_or, Bool.and_self, Option.isSome_none, Bool.false_or, beq_self_eq_true, wk0_self, wk0_nils]) <;> (try and_intros) <;> (first | done | rfl | exact .inl rfl | exact .inr ⟨rfl, _, _, rfl⟩ | (simp; done) | (simp; omega) | (refine .inl ?_; simp; done) | (refine .inl ?_; simp; omega))))
  simp -implicitDefEqProofs (maxSteps := 500000) (disch := first | decide | omega) only [↓preS, allS, decS, simprocAttr]
  unfold cc10L3
  simp -implicitDefEqProofs (maxSteps := 500000) (disch := first | decide | omega) only [↓preS, allS, decS, simprocAttr]
  refine iloop1 ns hns labs tree0 (by decide) nl r hlab (by omega) (psT tree0) (psT_len (by decide)) us cs0 (fun q hq => by rw [(hcs0 q hq).1]; simp) _ (fun cs hcs hil => ?_) _ (.inl rfl)
  simp -implicitDefEqProofs (maxSteps := 500000) (disch := first | decide | omega) only [↓preS, allS, decS, simprocAttr, fillOk, fillAV, List.append_nil]
  exact hQ r us cs0 cs hcs0 hcs hil
set_option maxRecDepth 20000 in
set_option maxHeartbeats 16000000 in
theorem good32_1 (shape : Int) (ns : List Int) (hns : ns.length < 2 ^ 62) (labs : List (List UInt8)) (nl : Nat) (hlab : labs.length = nl) (hnl : nl = 1 ∨ nl = 2) (hw : win shape 5 = 1) (Q : AV → List AO → Prop)
    (hQ : ∀ (r : Nat) (us : Nat → Int) (cs0 cs : Nat → List Cap), (∀ q, q < 3 → cs0 q = List.replicate nl W0 ∧ 1 ≤ us q ∧ us q ≤ 1000000) → (∀ q, q < 3 → (cs q).length = nl) → Il (psT tree1) 3 (fun i => kidsX (tree1.getD i default) [⟨psT tree1 0, .any, us 0⟩, ⟨psT tree1 1, .any, us 1⟩, ⟨psT tree1 2, .any, us 2⟩]) nl cs0 tree1.length cs → Q (.agg [.sl false 1 (labs.map AV.str), .own 2 3 0 3]) ([.box [.sl false 1 (labs.map AV.str), .own 2 3 0 3]] ++ [.box [.nils, .nils], .box [.sl false 1 (labs.map AV.str), .own 2 3 0 3], .box ([.str (psT tree1 0), .own 3 2 0 nl, .int .i64 (us 0), .str (psT tree1 1), .own 4 2 0 nl, .int .i64 (us 1), .str (psT tree1 2), .own 5 2 0 nl, .int .i64 (us 2)] ++ List.replicate r AV.any), .arr 2 ((cs 0).map CAP), .arr 2 ((cs 1).map CAP), .arr 2 ((cs 2).map CAP)].tail)) :
    aw Tryd.prog cc10T32 (retR [RV.ce 4 27 2 true] Q) ⟨[(0, .int .i64 shape), (1, .sl false 1 (ns.map I64)), (4, .ref 0 0 0), (5, .own 6 1 0 5), (6, .ref 8 0 0)], [.box [.nils, .nils], .dead, .dead, .dead, .dead, .dead, .arr 1 [.sl false 1 [.str [114, 111, 111, 116]], .sl false 1 [.str [114, 111, 111, 116], .str [114, 111, 111, 116, 46, 97], .str [114, 111, 111, 116, 46, 98]], .sl false 1 [.str [114, 111, 111, 116], .str [114, 111, 111, 116, 46, 97], .str [114, 111, 111, 116, 46, 97, 46, 120], .str [114, 111, 111, 116, 46, 97, 46, 121], .str [114, 111, 111, 116, 46, 98]], .sl false 1 [.str [114, 111, 111, 116], .str [114, 111, 111, 116, 46, 97], .str [114, 111, 111, 116, 46, 98], .str [114, 111, 111, 116, 46, 98, 46, 120], .str [114, 111, 111, 116, 46, 98, 46, 120, 46, 112], .str [114, 111, 111, 116, 46, 98, 46, 120, 46, 113], .str [114, 111, 111, 116, 46, 99]], .sl false 1 [.str [114, 111, 111, 116], .str [114, 111, 111, 116, 46, 97]]], .dead, .box [.sl false 1 (labs.map AV.str), .nils]]⟩ := by
  unfold cc10T32
  have c1 := within_ok shape 5 (by omega) (by omega)
  rw [hw] at c1
  simp -implicitDefEqProofs (maxSteps := 500000) (disch := first | decide | omega) only [↓preS, allS, decS, simprocAttr]
  refine acK_of (FCall.of (lent := false) (c1) (.refl rfl) rfl (by simp)) ?_
  simp -implicitDefEqProofs (maxSteps := 500000) (disch := first | decide | omega) only [↓preS, allS, decS, simprocAttr, ldo_cons1, part_sl, List.getD_cons_zero, List.getD_cons_succ]
  first | refine And.intro (by decide) ?_ | skip
  unfold cc10L5
  simp -implicitDefEqProofs (maxSteps := 500000) (disch := first | decide | omega) only [↓preS, allS, decS, simprocAttr]
  refine qloop3 ns hns labs tree1 nl hlab hnl rfl (psT tree1) (fun q h => psT_get q h) (fun _ => 0) (fun _ => []) _ (fun r us cs0 hcs0 => ?_) _ (by unfold PQ3 tree1; simp only [List.map_cons, List.map_nil]; (refine Sub.ofL [some 0, some 8] rfl (by simp) (by decide) (by simp [partL, AO.ro, AV.ro, AV.roL, names, AO.empty, SB, U8, SI, I64, STR] <;> (try and_intros) <;> rfl) (by simp [AO.bo, AV.bo, AV.boL, names] <;> (try and_intros) <;> rfl) ?_ <;> (try simp only [List.map_cons, List.map_nil, regsL, AV.ro, AV.roL, AV.bo, AV.boL, names, get_here, get_there, Nat.reduceBEq, List.getD_cons_zero, List.getD_cons_succ, List.getD_nil, and_true, true_and, Nat.reduceLT, List.length_cons, List.length_nil, Nat.reduceAdd, decide_true, Option.isSome_some, Bool.true_or, Bool.and_self, Option.isSome_none, Bool.false_or, beq_self_eq_true, wk0_self, wk0_nils]) <;> (try and_intros) <;> (first | done | rfl | exact .inl rfl | exact .inr ⟨rfl, _, _, rfl⟩ | (simp; done) | (simp; omega) | (refine .inl ?_; simp; done) | (refine .inl ?_; simp; omega))))
  simp -implicitDefEqProofs (maxSteps := 500000) (disch := first | decide | omega) only [↓preS, allS, decS, simprocAttr]
  unfold cc10L3
  simp -implicitDefEqProofs (maxSteps := 500000) (disch := first | decide | omega) only [↓preS, allS, decS, simprocAttr]
  refine iloop3 ns hns labs tree1 (by decide) nl r hlab (by omega) (psT tree1) (psT_len (by decide)) us cs0 (fun q hq => by rw [(hcs0 q hq).1]; simp) _ (fun cs hcs hil => ?_) _ (.inl rfl)
  simp -implicitDefEqProofs (maxSteps := 500000) (disch := first | decide | omega) only [↓preS, allS, decS, simprocAttr, fillOk, fillAV, List.append_nil]
  exact hQ r us cs0 cs hcs0 hcs hil
set_option maxRecDepth 20000 in
set_option maxHeartbeats 16000000 in
theorem good32_2 (shape : Int) (ns : List Int) (hns : ns.length < 2 ^ 62) (labs : List (List UInt8)) (nl : Nat) (hlab : labs.length = nl) (hnl : nl = 1 ∨ nl = 2) (hw : win shape 5 = 2) (Q : AV → List AO → Prop)
    (hQ : ∀ (r : Nat) (us : Nat → Int) (cs0 cs : Nat → List Cap), (∀ q, q < 5 → cs0 q = List.replicate nl W0 ∧ 1 ≤ us q ∧ us q ≤ 1000000) → (∀ q, q < 5 → (cs q).length = nl) → Il (psT tree2) 5 (fun i => kidsX (tree2.getD i default) [⟨psT tree2 0, .any, us 0⟩, ⟨psT tree2 1, .any, us 1⟩, ⟨psT tree2 2, .any, us 2⟩, ⟨psT tree2 3, .any, us 3⟩, ⟨psT tree2 4, .any, us 4⟩]) nl cs0 tree2.length cs → Q (.agg [.sl false 1 (labs.map AV.str), .own 2 3 0 5]) ([.box [.sl false 1 (labs.map AV.str), .own 2 3 0 5]] ++ [.box [.nils, .nils], .box [.sl false 1 (labs.map AV.str), .own 2 3 0 5], .box ([.str (psT tree2 0), .own 3 2 0 nl, .int .i64 (us 0), .str (psT tree2 1), .own 4 2 0 nl, .int .i64 (us 1), .str (psT tree2 2), .own 5 2 0 nl, .int .i64 (us 2), .str (psT tree2 3), .own 6 2 0 nl, .int .i64 (us 3), .str (psT tree2 4), .own 7 2 0 nl, .int .i64 (us 4)] ++ List.replicate r AV.any), .arr 2 ((cs 0).map CAP), .arr 2 ((cs 1).map CAP), .arr 2 ((cs 2).map CAP), .arr 2 ((cs 3).map CAP), .arr 2 ((cs 4).map CAP)].tail)) :
    aw Tryd.prog cc10T32 (retR [RV.ce 4 27 2 true] Q) ⟨[(0, .int .i64 shape), (1, .sl false 1 (ns.map I64)), (4, .ref 0 0 0), (5, .own 6 1 0 5), (6, .ref 8 0 0)], [.box [.nils, .nils], .dead, .dead, .dead, .dead, .dead, .arr 1 [.sl false 1 [.str [114, 111, 111, 116]], .sl false 1 [.str [114, 111, 111, 116], .str [114, 111, 111, 116, 46, 97], .str [114, 111, 111, 116, 46, 98]], .sl false 1 [.str [114, 111, 111, 116], .str [114, 111, 111, 116, 46, 97], .str [114, 111, 111, 116, 46, 97, 46, 120], .str [114, 111, 111, 116, 46, 97, 46, 121], .str [114, 111, 111, 116, 46, 98]], .sl false 1 [.str [114, 111, 111, 116], .str [114, 111, 111, 116, 46, 97], .str [114, 111, 111, 116, 46, 98], .str [114, 111, 111, 116, 46, 98, 46, 120], .str [114, 111, 111, 116, 46, 98, 46, 120, 46, 112], .str [114, 111, 111, 116, 46, 98, 46, 120, 46, 113], .str [114, 111, 111, 116, 46, 99]], .sl false 1 [.str [114, 111, 111, 116], .str [114, 111, 111, 116, 46, 97]]], .dead, .box [.sl false 1 (labs.map AV.str), .nils]]⟩ := by
  unfold cc10T32
  have c1 := within_ok shape 5 (by omega) (by omega)
  rw [hw] at c1
  simp -implicitDefEqProofs (maxSteps := 500000) (disch := first | decide | omega) only [↓preS, allS, decS, simprocAttr]
  refine acK_of (FCall.of (lent := false) (c1) (.refl rfl) rfl (by simp)) ?_
  simp -implicitDefEqProofs (maxSteps := 500000) (disch := first | decide | omega) only [↓preS, allS, decS, simprocAttr, ldo_cons1, part_sl, List.getD_cons_zero, List.getD_cons_succ]
  first | refine And.intro (by decide) ?_ | skip
  unfold cc10L5
  simp -implicitDefEqProofs (maxSteps := 500000) (disch := first | decide | omega) only [↓preS, allS, decS, simprocAttr]
  refine qloop5 ns hns labs tree2 nl hlab hnl rfl (psT tree2) (fun q h => psT_get q h) (fun _ => 0) (fun _ => []) _ (fun r us cs0 hcs0 => ?_) _ (by unfold PQ5 tree2; simp only [List.map_cons, List.map_nil]; (refine Sub.ofL [some 0, some 8] rfl (by simp) (by decide) (by simp [partL, AO.ro, AV.ro, AV.roL, names, AO.empty, SB, U8, SI, I64, STR] <;> (try and_intros) <;> rfl) (by simp [AO.bo, AV.bo, AV.boL, names] <;> (try and_intros) <;> rfl) ?_ <;> (try simp only [List.map_cons, List.map_nil, regsL, AV.ro, AV.roL, AV.bo, AV.boL, names, get_here, get_there, Nat.reduceBEq, List.getD_cons_zero, List.getD_cons_succ, List.getD_nil, and_true, true_and, Nat.reduceLT, List.length_cons, List.length_nil, Nat.reduceAdd, decide_true, Option.isSome_some, Bool.true_or, Bool.and_self, Option.isSome_none, Bool.false_or, beq_self_eq_true, wk0_self, wk0_nils]) <;> (try and_intros) <;> (first | done | rfl | exact .inl rfl | exact .inr ⟨rfl, _, _, rfl⟩ | (simp; done) | (simp; omega) | (refine .inl ?_; simp; done) | (refine .inl ?_; simp; omega))))
  simp -implicitDefEqProofs (maxSteps := 500000) (disch := first | decide | omega) only [↓preS, allS, decS, simprocAttr]
  unfold cc10L3
  simp -implicitDefEqProofs (maxSteps := 500000) (disch := first | decide | omega) only [↓preS, allS, decS, simprocAttr]
  refine iloop5 ns hns labs tree2 (by decide) nl r hlab (by omega) (psT tree2) (psT_len (by decide)) us cs0 (fun q hq => by rw [(hcs0 q hq).1]; simp) _ (fun cs hcs hil => ?_) _ (.inl rfl)
  simp -implicitDefEqProofs (maxSteps := 500000) (disch := first | decide | omega) only [↓preS, allS, decS, simprocAttr, fillOk, fillAV, List.append_nil]
  exact hQ r us cs0 cs hcs0 hcs hil
set_option maxRecDepth 20000 in
set_option maxHeartbeats 16000000 in
theorem good32_3 (shape : Int) (ns : List Int) (hns : ns.length < 2 ^ 62) (labs : List (List UInt8)) (nl : Nat) (hlab : labs.length = nl) (hnl : nl = 1 ∨ nl = 2) (hw : win shape 5 = 3) (Q : AV → List AO → Prop)
    (hQ : ∀ (r : Nat) (us : Nat → Int) (cs0 cs : Nat → List Cap), (∀ q, q < 7 → cs0 q = List.replicate nl W0 ∧ 1 ≤ us q ∧ us q ≤ 1000000) → (∀ q, q < 7 → (cs q).length = nl) → Il (psT tree3) 7 (fun i => kidsX (tree3.getD i default) [⟨psT tree3 0, .any, us 0⟩, ⟨psT tree3 1, .any, us 1⟩, ⟨psT tree3 2, .any, us 2⟩, ⟨psT tree3 3, .any, us 3⟩, ⟨psT tree3 4, .any, us 4⟩, ⟨psT tree3 5, .any, us 5⟩, ⟨psT tree3 6, .any, us 6⟩]) nl cs0 tree3.length cs → Q (.agg [.sl false 1 (labs.map AV.str), .own 2 3 0 7]) ([.box [.sl false 1 (labs.map AV.str), .own 2 3 0 7]] ++ [.box [.nils, .nils], .box [.sl false 1 (labs.map AV.str), .own 2 3 0 7], .box ([.str (psT tree3 0), .own 3 2 0 nl, .int .i64 (us 0), .str (psT tree3 1), .own 4 2 0 nl, .int .i64 (us 1), .str (psT tree3 2), .own 5 2 0 nl, .int .i64 (us 2), .str (psT tree3 3), .own 6 2 0 nl, .int .i64 (us 3), .str (psT tree3 4), .own 7 2 0 nl, .int .i64 (us 4), .str (psT tree3 5), .own 8 2 0 nl, .int .i64 (us 5), .str (psT tree3 6), .own 9 2 0 nl, .int .i64 (us 6)] ++ List.replicate r AV.any), .arr 2 ((cs 0).map CAP), .arr 2 ((cs 1).map CAP), .arr 2 ((cs 2).map CAP), .arr 2 ((cs 3).map CAP), .arr 2 ((cs 4).map CAP), .arr 2 ((cs 5).map CAP), .arr 2 ((cs 6).map CAP)].tail)) :
    aw Tryd.prog cc10T32 (retR [RV.ce 4 27 2 true] Q) ⟨[(0, .int .i64 shape), (1, .sl false 1 (ns.map I64)), (4, .ref 0 0 0), (5, .own 6 1 0 5), (6, .ref 8 0 0)], [.box [.nils, .nils], .dead, .dead, .dead, .dead, .dead, .arr 1 [.sl false 1 [.str [114, 111, 111, 116]], .sl false 1 [.str [114, 111, 111, 116], .str [114, 111, 111, 116, 46, 97], .str [114, 111, 111, 116, 46, 98]], .sl false 1 [.str [114, 111, 111, 116], .str [114, 111, 111, 116, 46, 97], .str [114, 111, 111, 116, 46, 97, 46, 120], .str [114, 111, 111, 116, 46, 97, 46, 121], .str [114, 111, 111, 116, 46, 98]], .sl false 1 [.str [114, 111, 111, 116], .str [114, 111, 111, 116, 46, 97], .str [114, 111, 111, 116, 46, 98], .str [114, 111, 111, 116, 46, 98, 46, 120], .str [114, 111, 111, 116, 46, 98, 46, 120, 46, 112], .str [114, 111, 111, 116, 46, 98, 46, 120, 46, 113], .str [114, 111, 111, 116, 46, 99]], .sl false 1 [.str [114, 111, 111, 116], .str [114, 111, 111, 116, 46, 97]]], .dead, .box [.sl false 1 (labs.map AV.str), .nils]]⟩ := by
  unfold cc10T32
  have c1 := within_ok shape 5 (by omega) (by omega)
  rw [hw] at c1
  simp -implicitDefEqProofs (maxSteps := 500000) (disch := first | decide | omega) only [↓preS, allS, decS, simprocAttr]
  refine acK_of (FCall.of (lent := false) (c1) (.refl rfl) rfl (by simp)) ?_
  simp -implicitDefEqProofs (maxSteps := 500000) (disch := first | decide | omega) only [↓preS, allS, decS, simprocAttr, ldo_cons1, part_sl, List.getD_cons_zero, List.getD_cons_succ]
  first | refine And.intro (by decide) ?_ | skip
  unfold cc10L5
  simp -implicitDefEqProofs (maxSteps := 500000) (disch := first | decide | omega) only [↓preS, allS, decS, simprocAttr]
  refine qloop7 ns hns labs tree3 nl hlab hnl rfl (psT tree3) (fun q h => psT_get q h) (fun _ => 0) (fun _ => []) _ (fun r us cs0 hcs0 => ?_) _ (by unfold PQ7 tree3; simp only [List.map_cons, List.map_nil]; (refine Sub.ofL [some 0, some 8] rfl (by simp) (by decide) (by simp [partL, AO.ro, AV.ro, AV.roL, names, AO.empty, SB, U8, SI, I64, STR] <;> (try and_intros) <;> rfl) (by simp [AO.bo, AV.bo, AV.boL, names] <;> (try and_intros) <;> rfl) ?_ <;> (try simp only [List.map_cons, List.map_nil, regsL, AV.ro, AV.roL, AV.bo, AV.boL, names, get_here, get_there, Nat.reduceBEq, List.getD_cons_zero, List.getD_cons_succ, List.getD_nil, and_true, true_and, Nat.reduceLT, List.length_cons, List.length_nil, Nat.reduceAdd, decide_true, Option.isSome_some, Bool.true_or, Bool.and_self, Option.isSome_none, Bool.false_or, beq_self_eq_true, wk0_self, wk0_nils]) <;> (try and_intros) <;> (first | done | rfl | exact .inl rfl | exact .inr ⟨rfl, _, _, rfl⟩ | (simp; done) | (simp; omega) | (refine .inl ?_; simp; done) | (refine .inl ?_; simp; omega))))
  simp -implicitDefEqProofs (maxSteps := 500000) (disch := first | decide | omega) only [↓preS, allS, decS, simprocAttr]
  unfold cc10L3
  simp -implicitDefEqProofs (maxSteps := 500000) (disch := first | decide | omega) only [↓preS, allS, decS, simprocAttr]
  refine iloop7 ns hns labs tree3 (by decide) nl r hlab (by omega) (psT tree3) (psT_len (by decide)) us cs0 (fun q hq => by rw [(hcs0 q hq).1]; simp) _ (fun cs hcs hil => ?_) _ (.inl rfl)
  simp -implicitDefEqProofs (maxSteps := 500000) (disch := first | decide | omega) only [↓preS, allS, decS, simprocAttr, fillOk, fillAV, List.append_nil]
  exact hQ r us cs0 cs hcs0 hcs hil
set_option maxRecDepth 20000 in
set_option maxHeartbeats 16000000 in
theorem good32_4 (shape : Int) (ns : List Int) (hns : ns.length < 2 ^ 62) (labs : List (List UInt8)) (nl : Nat) (hlab : labs.length = nl) (hnl : nl = 1 ∨ nl = 2) (hw : win shape 5 = 4) (Q : AV → List AO → Prop)
    (hQ : ∀ (r : Nat) (us : Nat → Int) (cs0 cs : Nat → List Cap), (∀ q, q < 2 → cs0 q = List.replicate nl W0 ∧ 1 ≤ us q ∧ us q ≤ 1000000) → (∀ q, q < 2 → (cs q).length = nl) → Il (psT tree4) 2 (fun i => kidsX (tree4.getD i default) [⟨psT tree4 0, .any, us 0⟩, ⟨psT tree4 1, .any, us 1⟩]) nl cs0 tree4.length cs → Q (.agg [.sl false 1 (labs.map AV.str), .own 2 3 0 2]) ([.box [.sl false 1 (labs.map AV.str), .own 2 3 0 2]] ++ [.box [.nils, .nils], .box [.sl false 1 (labs.map AV.str), .own 2 3 0 2], .box ([.str (psT tree4 0), .own 3 2 0 nl, .int .i64 (us 0), .str (psT tree4 1), .own 4 2 0 nl, .int .i64 (us 1)] ++ List.replicate r AV.any), .arr 2 ((cs 0).map CAP), .arr 2 ((cs 1).map CAP)].tail)) :
    aw Tryd.prog cc10T32 (retR [RV.ce 4 27 2 true] Q) ⟨[(0, .int .i64 shape), (1, .sl false 1 (ns.map I64)), (4, .ref 0 0 0), (5, .own 6 1 0 5), (6, .ref 8 0 0)], [.box [.nils, .nils], .dead, .dead, .dead, .dead, .dead, .arr 1 [.sl false 1 [.str [114, 111, 111, 116]], .sl false 1 [.str [114, 111, 111, 116], .str [114, 111, 111, 116, 46, 97], .str [114, 111, 111, 116, 46, 98]], .sl false 1 [.str [114, 111, 111, 116], .str [114, 111, 111, 116, 46, 97], .str [114, 111, 111, 116, 46, 97, 46, 120], .str [114, 111, 111, 116, 46, 97, 46, 121], .str [114, 111, 111, 116, 46, 98]], .sl false 1 [.str [114, 111, 111, 116], .str [114, 111, 111, 116, 46, 97], .str [114, 111, 111, 116, 46, 98], .str [114, 111, 111, 116, 46, 98, 46, 120], .str [114, 111, 111, 116, 46, 98, 46, 120, 46, 112], .str [114, 111, 111, 116, 46, 98, 46, 120, 46, 113], .str [114, 111, 111, 116, 46, 99]], .sl false 1 [.str [114, 111, 111, 116], .str [114, 111, 111, 116, 46, 97]]], .dead, .box [.sl false 1 (labs.map AV.str), .nils]]⟩ := by
  unfold cc10T32
  have c1 := within_ok shape 5 (by omega) (by omega)
  rw [hw] at c1
  simp -implicitDefEqProofs (maxSteps := 500000) (disch := first | decide | omega) only [↓preS, allS, decS, simprocAttr]
  refine acK_of (FCall.of (lent := false) (c1) (.refl rfl) rfl (by simp)) ?_
  simp -implicitDefEqProofs (maxSteps := 500000) (disch := first | decide | omega) only [↓preS, allS, decS, simprocAttr, ldo_cons1, part_sl, List.getD_cons_zero, List.getD_cons_succ]
  first | refine And.intro (by decide) ?_ | skip
  unfold cc10L5
  simp -implicitDefEqProofs (maxSteps := 500000) (disch := first | decide | omega) only [↓preS, allS, decS, simprocAttr]
  refine qloop2 ns hns labs tree4 nl hlab hnl rfl (psT tree4) (fun q h => psT_get q h) (fun _ => 0) (fun _ => []) _ (fun r us cs0 hcs0 => ?_) _ (by unfold PQ2 tree4; simp only [List.map_cons, List.map_nil]; (refine Sub.ofL [some 0, some 8] rfl (by simp) (by decide) (by simp [partL, AO.ro, AV.ro, AV.roL, names, AO.empty, SB, U8, SI, I64, STR] <;> (try and_intros) <;> rfl) (by simp [AO.bo, AV.bo, AV.boL, names] <;> (try and_intros) <;> rfl) ?_ <;> (try simp only [List.map_cons, List.map_nil, regsL, AV.ro, AV.roL, AV.bo, AV.boL, names, get_here, get_there, Nat.reduceBEq, List.getD_cons_zero, List.getD_cons_succ, List.getD_nil, and_true, true_and, Nat.reduceLT, List.length_cons, List.length_nil, Nat.reduceAdd, decide_true, Option.isSome_some, Bool.true_or, Bool.and_self, Option.isSome_none, Bool.false_or, beq_self_eq_true, wk0_self, wk0_nils]) <;> (try and_intros) <;> (first | done | rfl | exact .inl rfl | exact .inr ⟨rfl, _, _, rfl⟩ | (simp; done) | (simp; omega) | (refine .inl ?_; simp; done) | (refine .inl ?_; simp; omega))))
  simp -implicitDefEqProofs (maxSteps := 500000) (disch := first | decide | omega) only [↓preS, allS, decS, simprocAttr]
  unfold cc10L3
  simp -implicitDefEqProofs (maxSteps := 500000) (disch := first | decide | omega) only [↓preS, allS, decS, simprocAttr]
  refine iloop2 ns hns labs tree4 (by decide) nl r hlab (by omega) (psT tree4) (psT_len (by decide)) us cs0 (fun q hq => by rw [(hcs0 q hq).1]; simp) _ (fun cs hcs hil => ?_) _ (.inl rfl)
  simp -implicitDefEqProofs (maxSteps := 500000) (disch := first | decide | omega) only [↓preS, allS, decS, simprocAttr, fillOk, fillAV, List.append_nil]
  exact hQ r us cs0 cs hcs0 hcs hil
end Go.Proofs.YtcplpegahpmnjaaDoor
