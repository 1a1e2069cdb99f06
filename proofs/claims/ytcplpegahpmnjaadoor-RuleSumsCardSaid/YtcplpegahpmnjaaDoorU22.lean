/- What functions of the program compute. No condition. -/
import Derived.Test.YtcplpegahpmnjaaDoorU21
set_option linter.unusedSimpArgs false
set_option linter.unusedVariables false
namespace Go.Proofs.YtcplpegahpmnjaaDoor
open Go Go.Ab
theorem ldo_cons1 {a : AV} {l : List AV} {i : Nat} {K : AV → Prop} : ldoK 1 false i 0 (some (.arr 1 (a :: l))) K = (i < (a :: l).length ∧ bindV (partOf ((a :: l).getD i .top).cells 0 1 false) K) := by
  show (_ ∧ _ ∧ _ ∧ _) = _
  simp
theorem part_int {n : Int} : partOf (AV.int .i64 n).cells 0 1 false = .int .i64 n := rfl
theorem half_ok (left : Int) (h0 : 0 ≤ left) (h1 : left ≤ 10000) : ∃ h2 : Int, IntKind.i64.wrap (left.tdiv 2) = h2 ∧ 0 ≤ h2 ∧ h2 ≤ left := by
  refine ⟨left / 2, ?_, by omega, by omega⟩
  rw [Int.tdiv_eq_ediv_of_nonneg h0]
  exact wrap_i64 (by omega) (by omega)
set_option maxRecDepth 20000 in
set_option maxHeartbeats 16000000 in
theorem mid1 (ns : List Int) (hns : ns.length < 2 ^ 62) (labs pl ks : List (List UInt8)) (nl r : Nat) (i j k : Nat) (left x : Int) (hi : i ≤ 7) (hj : j < ks.length) (hks : ks.length ≤ 7) (hk : k < nl) (hnl : nl ≤ 2) (hx0 : 0 ≤ x) (hx1 : x ≤ left) (hl1 : left ≤ 10000) (ps : Nat → List UInt8) (us : Nat → Int) (cs : Nat → List Cap) (hcs : ∀ q, q < 1 → (cs q).length = nl) (Q : AE → St → Prop)
    (hQ : ∀ (y : Int) (cs' : Nat → List Cap), (∀ q, q < 1 → (cs' q).length = nl) → x ≤ y → y ≤ 10000 → cs' = updK ps 1 ks[j] k ⟨x, y⟩ cs → Q .normal ⟨[(1, .sl false 1 (ns.map I64)), (4, .ref 0 0 0), (6, .ref 1 0 0), (7, .sl false 1 (pl.map AV.str)), (11, .int .i64 (i : Int)), (12, .sl false 1 (ks.map AV.str)), (13, .int .i64 (k : Int)), (14, .int .i64 (left - x)), (15, .int .i64 (j : Int))], [.box [.nils, .nils], .box [.sl false 1 (labs.map AV.str), .own 2 3 0 1], .box ([.str (ps 0), .own 3 2 0 nl, .int .i64 (us 0)] ++ List.replicate r AV.any), .arr 2 ((cs' 0).map CAP)]⟩) :
    aw Tryd.prog cc10T141 Q ⟨[(1, .sl false 1 (ns.map I64)), (4, .ref 0 0 0), (6, .ref 1 0 0), (7, .sl false 1 (pl.map AV.str)), (11, .int .i64 (i : Int)), (12, .sl false 1 (ks.map AV.str)), (13, .int .i64 (k : Int)), (14, .int .i64 left), (15, .int .i64 (j : Int)), (16, .int .i64 x)], [.box [.nils, .nils], .box [.sl false 1 (labs.map AV.str), .own 2 3 0 1], .box ([.str (ps 0), .own 3 2 0 nl, .int .i64 (us 0)] ++ List.replicate r AV.any), .arr 2 ((cs 0).map CAP)]⟩ := by
  unfold cc10T141
  have c5 := pick_ok ns (j + k) hns
  rw [show (((j + k : Nat)) : Int) = (j : Int) + k by omega] at c5
  generalize pk ns (j + k) = v5 at c5
  have c8 := within_ok v5 (10000 - x + 1) (by omega) (by omega)
  have w8 := win_rng v5 (10000 - x + 1) (by omega)
  generalize win v5 (10000 - x + 1) = x8 at c8 w8
  have c6 := pick_ok ns (i + 2 * j) hns
  rw [show (((i + 2 * j : Nat)) : Int) = (i : Int) + 2 * j by omega] at c6
  generalize pk ns (i + 2 * j) = v6 at c6
  have c7 := within_ok v6 3 (by omega) (by omega)
  have w7 := win_rng v6 3 (by omega)
  generalize win v6 3 = x7 at c7 w7
  rcases (by omega : x7 = 0 ∨ x7 = 1 ∨ x7 = 2) with rfl | rfl | rfl <;> (
  simp -implicitDefEqProofs (maxSteps := 500000) (disch := first | decide | omega) only [↓preS, ↓reduceIte, allS, Nat.reduceBEq, Nat.reduceAdd, Nat.reduceEqDiff, reduceIte, Int.reduceToNat, Int.reduceLE, Int.reduceLT, Nat.reduceLeDiff, Nat.reduceMul, Nat.reducePow, Nat.reduceLT, Int.reduceBEq, Int.reduceBNe, Int.reduceAdd, Int.reduceSub, Int.reduceMul, Int.reduceGT, Int.reduceGE, decS, Int.reduceNe, Int.reduceEq]
  refine acK_of (FCall.of (lent := false) (c5) (.refl rfl) rfl (by simp)) ?_
  simp -implicitDefEqProofs (maxSteps := 500000) (disch := first | decide | omega) only [↓preS, ↓reduceIte, allS, Nat.reduceBEq, Nat.reduceAdd, Nat.reduceEqDiff, reduceIte, Int.reduceToNat, Int.reduceLE, Int.reduceLT, Nat.reduceLeDiff, Nat.reduceMul, Nat.reducePow, Nat.reduceLT, Int.reduceBEq, Int.reduceBNe, Int.reduceAdd, Int.reduceSub, Int.reduceMul, Int.reduceGT, Int.reduceGE, decS, Int.reduceNe, Int.reduceEq]
  refine acK_of (FCall.of (lent := false) (c8) (.refl rfl) rfl (by simp)) ?_
  simp -implicitDefEqProofs (maxSteps := 500000) (disch := first | decide | omega) only [↓preS, ↓reduceIte, allS, Nat.reduceBEq, Nat.reduceAdd, Nat.reduceEqDiff, reduceIte, Int.reduceToNat, Int.reduceLE, Int.reduceLT, Nat.reduceLeDiff, Nat.reduceMul, Nat.reducePow, Nat.reduceLT, Int.reduceBEq, Int.reduceBNe, Int.reduceAdd, Int.reduceSub, Int.reduceMul, Int.reduceGT, Int.reduceGE, decS, Int.reduceNe, Int.reduceEq]
  refine acK_of (FCall.of (lent := false) (c6) (.refl rfl) rfl (by simp)) ?_
  simp -implicitDefEqProofs (maxSteps := 500000) (disch := first | decide | omega) only [↓preS, ↓reduceIte, allS, Nat.reduceBEq, Nat.reduceAdd, Nat.reduceEqDiff, reduceIte, Int.reduceToNat, Int.reduceLE, Int.reduceLT, Nat.reduceLeDiff, Nat.reduceMul, Nat.reducePow, Nat.reduceLT, Int.reduceBEq, Int.reduceBNe, Int.reduceAdd, Int.reduceSub, Int.reduceMul, Int.reduceGT, Int.reduceGE, decS, Int.reduceNe, Int.reduceEq]
  refine acK_of (FCall.of (lent := false) (c7) (.refl rfl) rfl (by simp)) ?_
  simp -implicitDefEqProofs (maxSteps := 500000) (disch := first | decide | omega) only [↓preS, ↓reduceIte, allS, Nat.reduceBEq, Nat.reduceAdd, Nat.reduceEqDiff, reduceIte, Int.reduceToNat, Int.reduceLE, Int.reduceLT, Nat.reduceLeDiff, Nat.reduceMul, Nat.reducePow, Nat.reduceLT, Int.reduceBEq, Int.reduceBNe, Int.reduceAdd, Int.reduceSub, Int.reduceMul, Int.reduceGT, Int.reduceGE, decS, Int.reduceNe, Int.reduceEq, ldo_cons1, part_int, List.getD_cons_zero, List.getD_cons_succ]
  first | refine And.intro (by decide) ?_ | skip
  unfold cc10L0
  simp -implicitDefEqProofs (maxSteps := 500000) (disch := first | decide | omega) only [↓preS, ↓reduceIte, allS, Nat.reduceBEq, Nat.reduceAdd, Nat.reduceEqDiff, reduceIte, Int.reduceToNat, Int.reduceLE, Int.reduceLT, Nat.reduceLeDiff, Nat.reduceMul, Nat.reducePow, Nat.reduceLT, Int.reduceBEq, Int.reduceBNe, Int.reduceAdd, Int.reduceSub, Int.reduceMul, Int.reduceGT, Int.reduceGE, decS, Int.reduceNe, Int.reduceEq]
  refine mloop1 ns labs pl ks nl r i (left - x) x _ j k hj hk ps us cs hcs _ (fun cs' hcs' hcu => ?_) _ (by (refine Sub.ofL [some 0, some 1, some 2, some 3] rfl (by simp) (by decide) (by simp [partL, AO.ro, AV.ro, AV.roL, names, AO.empty, SB, U8, SI, I64, STR] <;> (try and_intros) <;> rfl) (by simp [AO.bo, AV.bo, AV.boL, names] <;> (try and_intros) <;> rfl) ?_ <;> (try simp only [List.map_cons, List.map_nil, regsL, AV.ro, AV.roL, AV.bo, AV.boL, names, get_here, get_there, Nat.reduceBEq, List.getD_cons_zero, List.getD_cons_succ, List.getD_nil, and_true, true_and, Nat.reduceLT, List.length_cons, List.length_nil, Nat.reduceAdd, decide_true, Option.isSome_some, Bool.true_or, Bool.and_self, Option.isSome_none, Bool.false_or, beq_self_eq_true, wk0_self, wk0_nils]) <;> (try and_intros) <;> (first | done | rfl | exact .inl rfl | exact .inr ⟨rfl, _, _, rfl⟩ | (simp; done) | (simp; omega) | (refine .inl ?_; simp; done) | (refine .inl ?_; simp; omega))))
  simp -implicitDefEqProofs (maxSteps := 500000) (disch := first | decide | omega) only [↓preS, ↓reduceIte, allS, Nat.reduceBEq, Nat.reduceAdd, Nat.reduceEqDiff, reduceIte, Int.reduceToNat, Int.reduceLE, Int.reduceLT, Nat.reduceLeDiff, Nat.reduceMul, Nat.reducePow, Nat.reduceLT, Int.reduceBEq, Int.reduceBNe, Int.reduceAdd, Int.reduceSub, Int.reduceMul, Int.reduceGT, Int.reduceGE, decS, Int.reduceNe, Int.reduceEq]
  exact hQ _ cs' hcs' (by omega) (by omega) hcu)
set_option maxRecDepth 20000 in
set_option maxHeartbeats 16000000 in
theorem mid1g (ns : List Int) (hns : ns.length < 2 ^ 62) (labs pl ks : List (List UInt8)) (nl r : Nat) (i j k : Nat) (left x : Int) (hi : i ≤ 7) (hj : j < ks.length) (hks : ks.length ≤ 7) (hk : k < nl) (hnl : nl ≤ 2) (hx0 : 0 ≤ x) (hx1 : x ≤ left) (hl1 : left ≤ 10000) (ps : Nat → List UInt8) (us : Nat → Int) (cs : Nat → List Cap) (hcs : ∀ q, q < 1 → (cs q).length = nl) (gl : List AV) (Q : AE → St → Prop)
    (hQ : ∀ (y : Int) (cs' : Nat → List Cap), (∀ q, q < 1 → (cs' q).length = nl) → x ≤ y → y ≤ 10000 → cs' = updK ps 1 ks[j] k ⟨x, y⟩ cs → Q .normal ⟨[(1, .sl false 1 (ns.map I64)), (4, .ref 0 0 0), (6, .ref 1 0 0), (7, .sl false 1 (pl.map AV.str)), (11, .int .i64 (i : Int)), (12, .sl false 1 (ks.map AV.str)), (13, .int .i64 (k : Int)), (14, .int .i64 (left - x)), (15, .int .i64 (j : Int))], [.box [.nils, .nils], .box [.sl false 1 (labs.map AV.str), .own 2 3 0 1], .box ([.str (ps 0), .own 3 2 0 nl, .int .i64 (us 0)] ++ List.replicate r AV.any), .arr 2 ((cs' 0).map CAP)]⟩) :
    aw Tryd.prog cc10T141 Q ⟨[(1, .sl false 1 (ns.map I64)), (4, .ref 0 0 0), (6, .ref 1 0 0), (7, .sl false 1 (pl.map AV.str)), (11, .int .i64 (i : Int)), (12, .sl false 1 (ks.map AV.str)), (13, .int .i64 (k : Int)), (14, .int .i64 left), (15, .int .i64 (j : Int)), (16, .int .i64 x)], [.box [.nils, .nils], .box [.sl false 1 (labs.map AV.str), .own 2 3 0 1], .box ([.str (ps 0), .own 3 2 0 nl, .int .i64 (us 0)] ++ List.replicate r AV.any), .arr 2 ((cs 0).map CAP), .arr 1 gl]⟩ := by
  unfold cc10T141
  have c5 := pick_ok ns (j + k) hns
  rw [show (((j + k : Nat)) : Int) = (j : Int) + k by omega] at c5
  generalize pk ns (j + k) = v5 at c5
  have c8 := within_ok v5 (10000 - x + 1) (by omega) (by omega)
  have w8 := win_rng v5 (10000 - x + 1) (by omega)
  generalize win v5 (10000 - x + 1) = x8 at c8 w8
  have c6 := pick_ok ns (i + 2 * j) hns
  rw [show (((i + 2 * j : Nat)) : Int) = (i : Int) + 2 * j by omega] at c6
  generalize pk ns (i + 2 * j) = v6 at c6
  have c7 := within_ok v6 3 (by omega) (by omega)
  have w7 := win_rng v6 3 (by omega)
  generalize win v6 3 = x7 at c7 w7
  rcases (by omega : x7 = 0 ∨ x7 = 1 ∨ x7 = 2) with rfl | rfl | rfl <;> (
  simp -implicitDefEqProofs (maxSteps := 500000) (disch := first | decide | omega) only [↓preS, ↓reduceIte, allS, Nat.reduceBEq, Nat.reduceAdd, Nat.reduceEqDiff, reduceIte, Int.reduceToNat, Int.reduceLE, Int.reduceLT, Nat.reduceLeDiff, Nat.reduceMul, Nat.reducePow, Nat.reduceLT, Int.reduceBEq, Int.reduceBNe, Int.reduceAdd, Int.reduceSub, Int.reduceMul, Int.reduceGT, Int.reduceGE, decS, Int.reduceNe, Int.reduceEq]
  refine acK_of (FCall.of (lent := false) (c5) (.refl rfl) rfl (by simp)) ?_
  simp -implicitDefEqProofs (maxSteps := 500000) (disch := first | decide | omega) only [↓preS, ↓reduceIte, allS, Nat.reduceBEq, Nat.reduceAdd, Nat.reduceEqDiff, reduceIte, Int.reduceToNat, Int.reduceLE, Int.reduceLT, Nat.reduceLeDiff, Nat.reduceMul, Nat.reducePow, Nat.reduceLT, Int.reduceBEq, Int.reduceBNe, Int.reduceAdd, Int.reduceSub, Int.reduceMul, Int.reduceGT, Int.reduceGE, decS, Int.reduceNe, Int.reduceEq]
  refine acK_of (FCall.of (lent := false) (c8) (.refl rfl) rfl (by simp)) ?_
  simp -implicitDefEqProofs (maxSteps := 500000) (disch := first | decide | omega) only [↓preS, ↓reduceIte, allS, Nat.reduceBEq, Nat.reduceAdd, Nat.reduceEqDiff, reduceIte, Int.reduceToNat, Int.reduceLE, Int.reduceLT, Nat.reduceLeDiff, Nat.reduceMul, Nat.reducePow, Nat.reduceLT, Int.reduceBEq, Int.reduceBNe, Int.reduceAdd, Int.reduceSub, Int.reduceMul, Int.reduceGT, Int.reduceGE, decS, Int.reduceNe, Int.reduceEq]
  refine acK_of (FCall.of (lent := false) (c6) (.refl rfl) rfl (by simp)) ?_
  simp -implicitDefEqProofs (maxSteps := 500000) (disch := first | decide | omega) only [↓preS, ↓reduceIte, allS, Nat.reduceBEq, Nat.reduceAdd, Nat.reduceEqDiff, reduceIte, Int.reduceToNat, Int.reduceLE, Int.reduceLT, Nat.reduceLeDiff, Nat.reduceMul, Nat.reducePow, Nat.reduceLT, Int.reduceBEq, Int.reduceBNe, Int.reduceAdd, Int.reduceSub, Int.reduceMul, Int.reduceGT, Int.reduceGE, decS, Int.reduceNe, Int.reduceEq]
  refine acK_of (FCall.of (lent := false) (c7) (.refl rfl) rfl (by simp)) ?_
  simp -implicitDefEqProofs (maxSteps := 500000) (disch := first | decide | omega) only [↓preS, ↓reduceIte, allS, Nat.reduceBEq, Nat.reduceAdd, Nat.reduceEqDiff, reduceIte, Int.reduceToNat, Int.reduceLE, Int.reduceLT, Nat.reduceLeDiff, Nat.reduceMul, Nat.reducePow, Nat.reduceLT, Int.reduceBEq, Int.reduceBNe, Int.reduceAdd, Int.reduceSub, Int.reduceMul, Int.reduceGT, Int.reduceGE, decS, Int.reduceNe, Int.reduceEq, ldo_cons1, part_int, List.getD_cons_zero, List.getD_cons_succ]
  first | refine And.intro (by decide) ?_ | skip
  unfold cc10L0
  simp -implicitDefEqProofs (maxSteps := 500000) (disch := first | decide | omega) only [↓preS, ↓reduceIte, allS, Nat.reduceBEq, Nat.reduceAdd, Nat.reduceEqDiff, reduceIte, Int.reduceToNat, Int.reduceLE, Int.reduceLT, Nat.reduceLeDiff, Nat.reduceMul, Nat.reducePow, Nat.reduceLT, Int.reduceBEq, Int.reduceBNe, Int.reduceAdd, Int.reduceSub, Int.reduceMul, Int.reduceGT, Int.reduceGE, decS, Int.reduceNe, Int.reduceEq]
  refine mloop1 ns labs pl ks nl r i (left - x) x _ j k hj hk ps us cs hcs _ (fun cs' hcs' hcu => ?_) _ (by (refine Sub.ofL [some 0, some 1, some 2, some 3] rfl (by simp) (by decide) (by simp [partL, AO.ro, AV.ro, AV.roL, names, AO.empty, SB, U8, SI, I64, STR] <;> (try and_intros) <;> rfl) (by simp [AO.bo, AV.bo, AV.boL, names] <;> (try and_intros) <;> rfl) ?_ <;> (try simp only [List.map_cons, List.map_nil, regsL, AV.ro, AV.roL, AV.bo, AV.boL, names, get_here, get_there, Nat.reduceBEq, List.getD_cons_zero, List.getD_cons_succ, List.getD_nil, and_true, true_and, Nat.reduceLT, List.length_cons, List.length_nil, Nat.reduceAdd, decide_true, Option.isSome_some, Bool.true_or, Bool.and_self, Option.isSome_none, Bool.false_or, beq_self_eq_true, wk0_self, wk0_nils]) <;> (try and_intros) <;> (first | done | rfl | exact .inl rfl | exact .inr ⟨rfl, _, _, rfl⟩ | (simp; done) | (simp; omega) | (refine .inl ?_; simp; done) | (refine .inl ?_; simp; omega))))
  simp -implicitDefEqProofs (maxSteps := 500000) (disch := first | decide | omega) only [↓preS, ↓reduceIte, allS, Nat.reduceBEq, Nat.reduceAdd, Nat.reduceEqDiff, reduceIte, Int.reduceToNat, Int.reduceLE, Int.reduceLT, Nat.reduceLeDiff, Nat.reduceMul, Nat.reducePow, Nat.reduceLT, Int.reduceBEq, Int.reduceBNe, Int.reduceAdd, Int.reduceSub, Int.reduceMul, Int.reduceGT, Int.reduceGE, decS, Int.reduceNe, Int.reduceEq]
  exact hQ _ cs' hcs' (by omega) (by omega) hcu)
set_option maxRecDepth 20000 in
set_option maxHeartbeats 16000000 in
theorem jloop1 (ns : List Int) (hns : ns.length < 2 ^ 62) (labs pl ks : List (List UInt8)) (hks : ks.length ≤ 7) (nl r : Nat) (i k : Nat) (hi : i ≤ 7) (hk : k < nl) (hnl : nl ≤ 2) (ps : Nat → List UInt8) (us : Nat → Int) (cs : Nat → List Cap) (hcs : ∀ q, q < 1 → (cs q).length = nl) (Q : AE → St → Prop)
    (hQ : ∀ lf, ∀ cs' : Nat → List Cap, (∀ q, q < 1 → (cs' q).length = nl) → Sh ps 1 ks k cs ks.length lf cs' → Q (.exit 8) ⟨[(1, .sl false 1 (ns.map I64)), (4, .ref 0 0 0), (6, .ref 1 0 0), (7, .sl false 1 (pl.map AV.str)), (11, .int .i64 (i : Int)), (12, .sl false 1 (ks.map AV.str)), (13, .int .i64 (k : Int)), (14, .int .i64 lf), (15, .int .i64 (ks.length : Int)), (108, .bool false)], [.box [.nils, .nils], .box [.sl false 1 (labs.map AV.str), .own 2 3 0 1], .box ([.str (ps 0), .own 3 2 0 nl, .int .i64 (us 0)] ++ List.replicate r AV.any), .arr 2 ((cs' 0).map CAP)]⟩) (s0 : St) (hs0 : Sub 0 (keepK (some [1, 4, 6, 7, 11, 12, 13, 14, 15]) s0) ⟨[(1, .sl false 1 (ns.map I64)), (4, .ref 0 0 0), (6, .ref 1 0 0), (7, .sl false 1 (pl.map AV.str)), (11, .int .i64 (i : Int)), (12, .sl false 1 (ks.map AV.str)), (13, .int .i64 (k : Int)), (14, .int .i64 10000), (15, .int .i64 (((0 : Nat) : Int) : Int))], [.box [.nils, .nils], .box [.sl false 1 (labs.map AV.str), .own 2 3 0 1], .box ([.str (ps 0), .own 3 2 0 nl, .int .i64 (us 0)] ++ List.replicate r AV.any), .arr 2 ((cs 0).map CAP)]⟩) :
    aw Tryd.prog (.loop 0 (some [1, 4, 6, 7, 11, 12, 13, 14, 15]) cc10l1) Q s0 := by
  refine aw_loopS (σ := Nat × Int × (Nat → List Cap)) (fun q => ⟨[(1, .sl false 1 (ns.map I64)), (4, .ref 0 0 0), (6, .ref 1 0 0), (7, .sl false 1 (pl.map AV.str)), (11, .int .i64 (i : Int)), (12, .sl false 1 (ks.map AV.str)), (13, .int .i64 (k : Int)), (14, .int .i64 q.2.1), (15, .int .i64 (q.1 : Int))], [.box [.nils, .nils], .box [.sl false 1 (labs.map AV.str), .own 2 3 0 1], .box ([.str (ps 0), .own 3 2 0 nl, .int .i64 (us 0)] ++ List.replicate r AV.any), .arr 2 ((q.2.2 0).map CAP)]⟩) (fun q => q.1 ≤ ks.length ∧ 0 ≤ q.2.1 ∧ q.2.1 ≤ 10000 ∧ (∀ w, w < 1 → (q.2.2 w).length = nl) ∧ Sh ps 1 ks k cs q.1 q.2.1 q.2.2) (fun q => ks.length - q.1) (0, 10000, cs) hs0 ⟨by simp, by simp, by simp, hcs, .zero⟩ ?_
  rintro ⟨j, left, cz⟩ ⟨hj, hl0, hl1, hcs, hsh⟩
  simp only at hj hl0 hl1 hcs hsh ⊢
  unfold cc10l1
  by_cases hjk : j < ks.length
  · have c1 := pick_ok ns (i + j + k) hns
    rw [show (((i + j + k : Nat)) : Int) = (i : Int) + j + k by omega] at c1
    generalize pk ns (i + j + k) = v1 at c1
    have c2 := within_ok v1 (left + 1) (by omega) (by omega)
    have w2 := win_rng v1 (left + 1) (by omega)
    generalize win v1 (left + 1) = x1 at c2 w2
    have hij : i * j ≤ 7 * 7 := Nat.mul_le_mul hi (by omega)
    have c3 := pick_ok ns (i * j + k) hns
    rw [show (((i * j + k : Nat)) : Int) = (i : Int) * j + k by rw [Int.natCast_add, Int.natCast_mul]] at c3
    generalize pk ns (i * j + k) = v3 at c3
    have c4 := within_ok v3 4 (by omega) (by omega)
    have w4 := win_rng v3 4 (by omega)
    generalize win v3 4 = x4 at c4 w4
    have hij2 : 0 ≤ (i : Int) * j ∧ (i : Int) * j ≤ 49 := by
      have : ((i * j : Nat) : Int) = (i : Int) * j := Int.natCast_mul i j
      omega
    obtain ⟨h2, hw2, h20, h21⟩ := half_ok left hl0 hl1
    by_cases hlast : (j : Int) < (ks.length : Int) - 1
    · rcases (by omega : x4 = 0 ∨ x4 = 1 ∨ x4 = 2 ∨ x4 = 3) with rfl | rfl | rfl | rfl
      all_goals (
        simp -implicitDefEqProofs (maxSteps := 500000) (disch := first | decide | omega) only [↓preS, ↓reduceIte, allS, Nat.reduceBEq, Nat.reduceAdd, Nat.reduceEqDiff, reduceIte, Int.reduceToNat, Int.reduceLE, Int.reduceLT, Nat.reduceLeDiff, Nat.reduceMul, Nat.reducePow, Nat.reduceLT, Int.reduceBEq, Int.reduceBNe, Int.reduceAdd, Int.reduceSub, Int.reduceMul, Int.reduceGT, Int.reduceGE, decS, Int.reduceNe, Int.reduceEq, hw2]
        refine acK_of (FCall.of (lent := false) (c1) (.refl rfl) rfl (by simp)) ?_
        simp -implicitDefEqProofs (maxSteps := 500000) (disch := first | decide | omega) only [↓preS, ↓reduceIte, allS, Nat.reduceBEq, Nat.reduceAdd, Nat.reduceEqDiff, reduceIte, Int.reduceToNat, Int.reduceLE, Int.reduceLT, Nat.reduceLeDiff, Nat.reduceMul, Nat.reducePow, Nat.reduceLT, Int.reduceBEq, Int.reduceBNe, Int.reduceAdd, Int.reduceSub, Int.reduceMul, Int.reduceGT, Int.reduceGE, decS, Int.reduceNe, Int.reduceEq, hw2]
        refine acK_of (FCall.of (lent := false) (c2) (.refl rfl) rfl (by simp)) ?_
        simp -implicitDefEqProofs (maxSteps := 500000) (disch := first | decide | omega) only [↓preS, ↓reduceIte, allS, Nat.reduceBEq, Nat.reduceAdd, Nat.reduceEqDiff, reduceIte, Int.reduceToNat, Int.reduceLE, Int.reduceLT, Nat.reduceLeDiff, Nat.reduceMul, Nat.reducePow, Nat.reduceLT, Int.reduceBEq, Int.reduceBNe, Int.reduceAdd, Int.reduceSub, Int.reduceMul, Int.reduceGT, Int.reduceGE, decS, Int.reduceNe, Int.reduceEq, hw2]
        refine acK_of (FCall.of (lent := false) (c3) (.refl rfl) rfl (by simp)) ?_
        simp -implicitDefEqProofs (maxSteps := 500000) (disch := first | decide | omega) only [↓preS, ↓reduceIte, allS, Nat.reduceBEq, Nat.reduceAdd, Nat.reduceEqDiff, reduceIte, Int.reduceToNat, Int.reduceLE, Int.reduceLT, Nat.reduceLeDiff, Nat.reduceMul, Nat.reducePow, Nat.reduceLT, Int.reduceBEq, Int.reduceBNe, Int.reduceAdd, Int.reduceSub, Int.reduceMul, Int.reduceGT, Int.reduceGE, decS, Int.reduceNe, Int.reduceEq]
        refine acK_of (FCall.of (lent := false) (c4) (.refl rfl) rfl (by simp)) ?_
        simp -implicitDefEqProofs (maxSteps := 500000) (disch := first | decide | omega) only [↓preS, ↓reduceIte, allS, Nat.reduceBEq, Nat.reduceAdd, Nat.reduceEqDiff, reduceIte, Int.reduceToNat, Int.reduceLE, Int.reduceLT, Nat.reduceLeDiff, Nat.reduceMul, Nat.reducePow, Nat.reduceLT, Int.reduceBEq, Int.reduceBNe, Int.reduceAdd, Int.reduceSub, Int.reduceMul, Int.reduceGT, Int.reduceGE, decS, Int.reduceNe, Int.reduceEq, ldo_cons1, part_int, List.getD_cons_zero, List.getD_cons_succ]
        first | refine And.intro (by decide) ?_ | skip)
      · refine mid1g ns hns labs pl ks nl r i j k left 0 hi hjk hks hk hnl (by omega) (by omega) hl1 ps us cz hcs _ _ fun y cs' hcs' hy1 hy2 hcu => ?_
        simp -implicitDefEqProofs (maxSteps := 500000) (disch := first | decide | omega) only [↓preS, ↓reduceIte, allS, Nat.reduceBEq, Nat.reduceAdd, Nat.reduceEqDiff, reduceIte, Int.reduceToNat, Int.reduceLE, Int.reduceLT, Nat.reduceLeDiff, Nat.reduceMul, Nat.reducePow, Nat.reduceLT, Int.reduceBEq, Int.reduceBNe, Int.reduceAdd, Int.reduceSub, Int.reduceMul, Int.reduceGT, Int.reduceGE, decS, Int.reduceNe, Int.reduceEq]
        refine ⟨(j + 1, left, cs'), ?_, ⟨by simp only; omega, by simp only; omega, by simp only; omega, hcs', (by simp only; rw [hcu]; exact (Sh.step (x := 0) (y := y) hjk hsh (by omega) (by omega) hy1 hy2 (by omega)).of (by omega))⟩, by simp only; omega⟩
        first | exact .inl rfl | (simp only [Int.sub_self, Int.sub_zero]; exact .inl rfl)
      · refine mid1g ns hns labs pl ks nl r i j k left h2 hi hjk hks hk hnl (by omega) (by omega) hl1 ps us cz hcs _ _ fun y cs' hcs' hy1 hy2 hcu => ?_
        simp -implicitDefEqProofs (maxSteps := 500000) (disch := first | decide | omega) only [↓preS, ↓reduceIte, allS, Nat.reduceBEq, Nat.reduceAdd, Nat.reduceEqDiff, reduceIte, Int.reduceToNat, Int.reduceLE, Int.reduceLT, Nat.reduceLeDiff, Nat.reduceMul, Nat.reducePow, Nat.reduceLT, Int.reduceBEq, Int.reduceBNe, Int.reduceAdd, Int.reduceSub, Int.reduceMul, Int.reduceGT, Int.reduceGE, decS, Int.reduceNe, Int.reduceEq]
        refine ⟨(j + 1, left - h2, cs'), ?_, ⟨by simp only; omega, by simp only; omega, by simp only; omega, hcs', (by simp only; rw [hcu]; exact (Sh.step (x := h2) (y := y) hjk hsh (by omega) (by omega) hy1 hy2 (by omega)).of (by omega))⟩, by simp only; omega⟩
        first | exact .inl rfl | (simp only [Int.sub_self, Int.sub_zero]; exact .inl rfl)
      · refine mid1g ns hns labs pl ks nl r i j k left left hi hjk hks hk hnl (by omega) (by omega) hl1 ps us cz hcs _ _ fun y cs' hcs' hy1 hy2 hcu => ?_
        simp -implicitDefEqProofs (maxSteps := 500000) (disch := first | decide | omega) only [↓preS, ↓reduceIte, allS, Nat.reduceBEq, Nat.reduceAdd, Nat.reduceEqDiff, reduceIte, Int.reduceToNat, Int.reduceLE, Int.reduceLT, Nat.reduceLeDiff, Nat.reduceMul, Nat.reducePow, Nat.reduceLT, Int.reduceBEq, Int.reduceBNe, Int.reduceAdd, Int.reduceSub, Int.reduceMul, Int.reduceGT, Int.reduceGE, decS, Int.reduceNe, Int.reduceEq]
        refine ⟨(j + 1, 0, cs'), ?_, ⟨by simp only; omega, by simp only; omega, by simp only; omega, hcs', (by simp only; rw [hcu]; exact (Sh.step (x := left) (y := y) hjk hsh (by omega) (by omega) hy1 hy2 (by omega)).of (by omega))⟩, by simp only; omega⟩
        first | exact .inl rfl | (simp only [Int.sub_self, Int.sub_zero]; exact .inl rfl)
      · refine mid1g ns hns labs pl ks nl r i j k left x1 hi hjk hks hk hnl (by omega) (by omega) hl1 ps us cz hcs _ _ fun y cs' hcs' hy1 hy2 hcu => ?_
        simp -implicitDefEqProofs (maxSteps := 500000) (disch := first | decide | omega) only [↓preS, ↓reduceIte, allS, Nat.reduceBEq, Nat.reduceAdd, Nat.reduceEqDiff, reduceIte, Int.reduceToNat, Int.reduceLE, Int.reduceLT, Nat.reduceLeDiff, Nat.reduceMul, Nat.reducePow, Nat.reduceLT, Int.reduceBEq, Int.reduceBNe, Int.reduceAdd, Int.reduceSub, Int.reduceMul, Int.reduceGT, Int.reduceGE, decS, Int.reduceNe, Int.reduceEq]
        refine ⟨(j + 1, left - x1, cs'), ?_, ⟨by simp only; omega, by simp only; omega, by simp only; omega, hcs', (by simp only; rw [hcu]; exact (Sh.step (x := x1) (y := y) hjk hsh (by omega) (by omega) hy1 hy2 (by omega)).of (by omega))⟩, by simp only; omega⟩
        first | exact .inl rfl | (simp only [Int.sub_self, Int.sub_zero]; exact .inl rfl)
    · simp -implicitDefEqProofs (maxSteps := 500000) (disch := first | decide | omega) only [↓preS, ↓reduceIte, allS, Nat.reduceBEq, Nat.reduceAdd, Nat.reduceEqDiff, reduceIte, Int.reduceToNat, Int.reduceLE, Int.reduceLT, Nat.reduceLeDiff, Nat.reduceMul, Nat.reducePow, Nat.reduceLT, Int.reduceBEq, Int.reduceBNe, Int.reduceAdd, Int.reduceSub, Int.reduceMul, Int.reduceGT, Int.reduceGE, decS, Int.reduceNe, Int.reduceEq]
      refine mid1 ns hns labs pl ks nl r i j k left left hi hjk hks hk hnl hl0 (by omega) hl1 ps us cz hcs _ fun y cs' hcs' hy1 hy2 hcu => ?_
      simp -implicitDefEqProofs (maxSteps := 500000) (disch := first | decide | omega) only [↓preS, ↓reduceIte, allS, Nat.reduceBEq, Nat.reduceAdd, Nat.reduceEqDiff, reduceIte, Int.reduceToNat, Int.reduceLE, Int.reduceLT, Nat.reduceLeDiff, Nat.reduceMul, Nat.reducePow, Nat.reduceLT, Int.reduceBEq, Int.reduceBNe, Int.reduceAdd, Int.reduceSub, Int.reduceMul, Int.reduceGT, Int.reduceGE, decS, Int.reduceNe, Int.reduceEq]
      refine ⟨(j + 1, 0, cs'), ?_, ⟨by simp only; omega, by simp only; omega, by simp only; omega, hcs', (by simp only; rw [hcu]; exact (Sh.step (x := left) (y := y) hjk hsh (by omega) (by omega) hy1 hy2 (by omega)).of (by omega))⟩, by simp only; omega⟩
      first | exact .inl rfl | (simp only [Int.sub_self, Int.sub_zero]; exact .inl rfl)
  · have : j = ks.length := by omega
    subst this
    simp -implicitDefEqProofs (maxSteps := 500000) (disch := first | decide | omega) only [↓preS, ↓reduceIte, allS, Nat.reduceBEq, Nat.reduceAdd, Nat.reduceEqDiff, reduceIte, Int.reduceToNat, Int.reduceLE, Int.reduceLT, Nat.reduceLeDiff, Nat.reduceMul, Nat.reducePow, Nat.reduceLT, Int.reduceBEq, Int.reduceBNe, Int.reduceAdd, Int.reduceSub, Int.reduceMul, Int.reduceGT, Int.reduceGE, decS, Int.reduceNe, Int.reduceEq]
    exact hQ left cz hcs hsh
set_option maxRecDepth 20000 in
set_option maxHeartbeats 16000000 in
theorem mid2 (ns : List Int) (hns : ns.length < 2 ^ 62) (labs pl ks : List (List UInt8)) (nl r : Nat) (i j k : Nat) (left x : Int) (hi : i ≤ 7) (hj : j < ks.length) (hks : ks.length ≤ 7) (hk : k < nl) (hnl : nl ≤ 2) (hx0 : 0 ≤ x) (hx1 : x ≤ left) (hl1 : left ≤ 10000) (ps : Nat → List UInt8) (us : Nat → Int) (cs : Nat → List Cap) (hcs : ∀ q, q < 2 → (cs q).length = nl) (Q : AE → St → Prop)
    (hQ : ∀ (y : Int) (cs' : Nat → List Cap), (∀ q, q < 2 → (cs' q).length = nl) → x ≤ y → y ≤ 10000 → cs' = updK ps 2 ks[j] k ⟨x, y⟩ cs → Q .normal ⟨[(1, .sl false 1 (ns.map I64)), (4, .ref 0 0 0), (6, .ref 1 0 0), (7, .sl false 1 (pl.map AV.str)), (11, .int .i64 (i : Int)), (12, .sl false 1 (ks.map AV.str)), (13, .int .i64 (k : Int)), (14, .int .i64 (left - x)), (15, .int .i64 (j : Int))], [.box [.nils, .nils], .box [.sl false 1 (labs.map AV.str), .own 2 3 0 2], .box ([.str (ps 0), .own 3 2 0 nl, .int .i64 (us 0), .str (ps 1), .own 4 2 0 nl, .int .i64 (us 1)] ++ List.replicate r AV.any), .arr 2 ((cs' 0).map CAP), .arr 2 ((cs' 1).map CAP)]⟩) :
    aw Tryd.prog cc10T141 Q ⟨[(1, .sl false 1 (ns.map I64)), (4, .ref 0 0 0), (6, .ref 1 0 0), (7, .sl false 1 (pl.map AV.str)), (11, .int .i64 (i : Int)), (12, .sl false 1 (ks.map AV.str)), (13, .int .i64 (k : Int)), (14, .int .i64 left), (15, .int .i64 (j : Int)), (16, .int .i64 x)], [.box [.nils, .nils], .box [.sl false 1 (labs.map AV.str), .own 2 3 0 2], .box ([.str (ps 0), .own 3 2 0 nl, .int .i64 (us 0), .str (ps 1), .own 4 2 0 nl, .int .i64 (us 1)] ++ List.replicate r AV.any), .arr 2 ((cs 0).map CAP), .arr 2 ((cs 1).map CAP)]⟩ := by
  unfold cc10T141
  have c5 := pick_ok ns (j + k) hns
  rw [show (((j + k : Nat)) : Int) = (j : Int) + k by omega] at c5
  generalize pk ns (j + k) = v5 at c5
  have c8 := within_ok v5 (10000 - x + 1) (by omega) (by omega)
  have w8 := win_rng v5 (10000 - x + 1) (by omega)
  generalize win v5 (10000 - x + 1) = x8 at c8 w8
  have c6 := pick_ok ns (i + 2 * j) hns
  rw [show (((i + 2 * j : Nat)) : Int) = (i : Int) + 2 * j by omega] at c6
  generalize pk ns (i + 2 * j) = v6 at c6
  have c7 := within_ok v6 3 (by omega) (by omega)
  have w7 := win_rng v6 3 (by omega)
  generalize win v6 3 = x7 at c7 w7
  rcases (by omega : x7 = 0 ∨ x7 = 1 ∨ x7 = 2) with rfl | rfl | rfl <;> (
  simp -implicitDefEqProofs (maxSteps := 500000) (disch := first | decide | omega) only [↓preS, ↓reduceIte, allS, Nat.reduceBEq, Nat.reduceAdd, Nat.reduceEqDiff, reduceIte, Int.reduceToNat, Int.reduceLE, Int.reduceLT, Nat.reduceLeDiff, Nat.reduceMul, Nat.reducePow, Nat.reduceLT, Int.reduceBEq, Int.reduceBNe, Int.reduceAdd, Int.reduceSub, Int.reduceMul, Int.reduceGT, Int.reduceGE, decS, Int.reduceNe, Int.reduceEq]
  refine acK_of (FCall.of (lent := false) (c5) (.refl rfl) rfl (by simp)) ?_
  simp -implicitDefEqProofs (maxSteps := 500000) (disch := first | decide | omega) only [↓preS, ↓reduceIte, allS, Nat.reduceBEq, Nat.reduceAdd, Nat.reduceEqDiff, reduceIte, Int.reduceToNat, Int.reduceLE, Int.reduceLT, Nat.reduceLeDiff, Nat.reduceMul, Nat.reducePow, Nat.reduceLT, Int.reduceBEq, Int.reduceBNe, Int.reduceAdd, Int.reduceSub, Int.reduceMul, Int.reduceGT, Int.reduceGE, decS, Int.reduceNe, Int.reduceEq]
  refine acK_of (FCall.of (lent := false) (c8) (.refl rfl) rfl (by simp)) ?_
  simp -implicitDefEqProofs (maxSteps := 500000) (disch := first | decide | omega) only [↓preS, ↓reduceIte, allS, Nat.reduceBEq, Nat.reduceAdd, Nat.reduceEqDiff, reduceIte, Int.reduceToNat, Int.reduceLE, Int.reduceLT, Nat.reduceLeDiff, Nat.reduceMul, Nat.reducePow, Nat.reduceLT, Int.reduceBEq, Int.reduceBNe, Int.reduceAdd, Int.reduceSub, Int.reduceMul, Int.reduceGT, Int.reduceGE, decS, Int.reduceNe, Int.reduceEq]
  refine acK_of (FCall.of (lent := false) (c6) (.refl rfl) rfl (by simp)) ?_
  simp -implicitDefEqProofs (maxSteps := 500000) (disch := first | decide | omega) only [↓preS, ↓reduceIte, allS, Nat.reduceBEq, Nat.reduceAdd, Nat.reduceEqDiff, reduceIte, Int.reduceToNat, Int.reduceLE, Int.reduceLT, Nat.reduceLeDiff, Nat.reduceMul, Nat.reducePow, Nat.reduceLT, Int.reduceBEq, Int.reduceBNe, Int.reduceAdd, Int.reduceSub, Int.reduceMul, Int.reduceGT, Int.reduceGE, decS, Int.reduceNe, Int.reduceEq]
  refine acK_of (FCall.of (lent := false) (c7) (.refl rfl) rfl (by simp)) ?_
  simp -implicitDefEqProofs (maxSteps := 500000) (disch := first | decide | omega) only [↓preS, ↓reduceIte, allS, Nat.reduceBEq, Nat.reduceAdd, Nat.reduceEqDiff, reduceIte, Int.reduceToNat, Int.reduceLE, Int.reduceLT, Nat.reduceLeDiff, Nat.reduceMul, Nat.reducePow, Nat.reduceLT, Int.reduceBEq, Int.reduceBNe, Int.reduceAdd, Int.reduceSub, Int.reduceMul, Int.reduceGT, Int.reduceGE, decS, Int.reduceNe, Int.reduceEq, ldo_cons1, part_int, List.getD_cons_zero, List.getD_cons_succ]
  first | refine And.intro (by decide) ?_ | skip
  unfold cc10L0
  simp -implicitDefEqProofs (maxSteps := 500000) (disch := first | decide | omega) only [↓preS, ↓reduceIte, allS, Nat.reduceBEq, Nat.reduceAdd, Nat.reduceEqDiff, reduceIte, Int.reduceToNat, Int.reduceLE, Int.reduceLT, Nat.reduceLeDiff, Nat.reduceMul, Nat.reducePow, Nat.reduceLT, Int.reduceBEq, Int.reduceBNe, Int.reduceAdd, Int.reduceSub, Int.reduceMul, Int.reduceGT, Int.reduceGE, decS, Int.reduceNe, Int.reduceEq]
  refine mloop2 ns labs pl ks nl r i (left - x) x _ j k hj hk ps us cs hcs _ (fun cs' hcs' hcu => ?_) _ (by (refine Sub.ofL [some 0, some 1, some 2, some 3, some 4] rfl (by simp) (by decide) (by simp [partL, AO.ro, AV.ro, AV.roL, names, AO.empty, SB, U8, SI, I64, STR] <;> (try and_intros) <;> rfl) (by simp [AO.bo, AV.bo, AV.boL, names] <;> (try and_intros) <;> rfl) ?_ <;> (try simp only [List.map_cons, List.map_nil, regsL, AV.ro, AV.roL, AV.bo, AV.boL, names, get_here, get_there, Nat.reduceBEq, List.getD_cons_zero, List.getD_cons_succ, List.getD_nil, and_true, true_and, Nat.reduceLT, List.length_cons, List.length_nil, Nat.reduceAdd, decide_true, Option.isSome_some, Bool.true_or, Bool.and_self, Option.isSome_none, Bool.false_or, beq_self_eq_true, wk0_self, wk0_nils]) <;> (try and_intros) <;> (first | done | rfl | exact .inl rfl | exact .inr ⟨rfl, _, _, rfl⟩ | (simp; done) | (simp; omega) | (refine .inl ?_; simp; done) | (refine .inl ?_; simp; omega))))
  simp -implicitDefEqProofs (maxSteps := 500000) (disch := first | decide | omega) only [↓preS, ↓reduceIte, allS, Nat.reduceBEq, Nat.reduceAdd, Nat.reduceEqDiff, reduceIte, Int.reduceToNat, Int.reduceLE, Int.reduceLT, Nat.reduceLeDiff, Nat.reduceMul, Nat.reducePow, Nat.reduceLT, Int.reduceBEq, Int.reduceBNe, Int.reduceAdd, Int.reduceSub, Int.reduceMul, Int.reduceGT, Int.reduceGE, decS, Int.reduceNe, Int.reduceEq]
  exact hQ _ cs' hcs' (by omega) (by omega) hcu)
set_option maxRecDepth 20000 in
set_option maxHeartbeats 16000000 in
theorem mid2g (ns : List Int) (hns : ns.length < 2 ^ 62) (labs pl ks : List (List UInt8)) (nl r : Nat) (i j k : Nat) (left x : Int) (hi : i ≤ 7) (hj : j < ks.length) (hks : ks.length ≤ 7) (hk : k < nl) (hnl : nl ≤ 2) (hx0 : 0 ≤ x) (hx1 : x ≤ left) (hl1 : left ≤ 10000) (ps : Nat → List UInt8) (us : Nat → Int) (cs : Nat → List Cap) (hcs : ∀ q, q < 2 → (cs q).length = nl) (gl : List AV) (Q : AE → St → Prop)
    (hQ : ∀ (y : Int) (cs' : Nat → List Cap), (∀ q, q < 2 → (cs' q).length = nl) → x ≤ y → y ≤ 10000 → cs' = updK ps 2 ks[j] k ⟨x, y⟩ cs → Q .normal ⟨[(1, .sl false 1 (ns.map I64)), (4, .ref 0 0 0), (6, .ref 1 0 0), (7, .sl false 1 (pl.map AV.str)), (11, .int .i64 (i : Int)), (12, .sl false 1 (ks.map AV.str)), (13, .int .i64 (k : Int)), (14, .int .i64 (left - x)), (15, .int .i64 (j : Int))], [.box [.nils, .nils], .box [.sl false 1 (labs.map AV.str), .own 2 3 0 2], .box ([.str (ps 0), .own 3 2 0 nl, .int .i64 (us 0), .str (ps 1), .own 4 2 0 nl, .int .i64 (us 1)] ++ List.replicate r AV.any), .arr 2 ((cs' 0).map CAP), .arr 2 ((cs' 1).map CAP)]⟩) :
    aw Tryd.prog cc10T141 Q ⟨[(1, .sl false 1 (ns.map I64)), (4, .ref 0 0 0), (6, .ref 1 0 0), (7, .sl false 1 (pl.map AV.str)), (11, .int .i64 (i : Int)), (12, .sl false 1 (ks.map AV.str)), (13, .int .i64 (k : Int)), (14, .int .i64 left), (15, .int .i64 (j : Int)), (16, .int .i64 x)], [.box [.nils, .nils], .box [.sl false 1 (labs.map AV.str), .own 2 3 0 2], .box ([.str (ps 0), .own 3 2 0 nl, .int .i64 (us 0), .str (ps 1), .own 4 2 0 nl, .int .i64 (us 1)] ++ List.replicate r AV.any), .arr 2 ((cs 0).map CAP), .arr 2 ((cs 1).map CAP), .arr 1 gl]⟩ := by
  unfold cc10T141
  have c5 := pick_ok ns (j + k) hns
  rw [show (((j + k : Nat)) : Int) = (j : Int) + k by omega] at c5
  generalize pk ns (j + k) = v5 at c5
  have c8 := within_ok v5 (10000 - x + 1) (by omega) (by omega)
  have w8 := win_rng v5 (10000 - x + 1) (by omega)
  generalize win v5 (10000 - x + 1) = x8 at c8 w8
  have c6 := pick_ok ns (i + 2 * j) hns
  rw [show (((i + 2 * j : Nat)) : Int) = (i : Int) + 2 * j by omega] at c6
  generalize pk ns (i + 2 * j) = v6 at c6
  have c7 := within_ok v6 3 (by omega) (by omega)
  have w7 := win_rng v6 3 (by omega)
  generalize win v6 3 = x7 at c7 w7
  rcases (by omega : x7 = 0 ∨ x7 = 1 ∨ x7 = 2) with rfl | rfl | rfl <;> (
  simp -implicitDefEqProofs (maxSteps := 500000) (disch := first | decide | omega) only [↓preS, ↓reduceIte, allS, Nat.reduceBEq, Nat.reduceAdd, Nat.reduceEqDiff, reduceIte, Int.reduceToNat, Int.reduceLE, Int.reduceLT, Nat.reduceLeDiff, Nat.reduceMul, Nat.reducePow, Nat.reduceLT, Int.reduceBEq, Int.reduceBNe, Int.reduceAdd, Int.reduceSub, Int.reduceMul, Int.reduceGT, Int.reduceGE, decS, Int.reduceNe, Int.reduceEq]
  refine acK_of (FCall.of (lent := false) (c5) (.refl rfl) rfl (by simp)) ?_
  simp -implicitDefEqProofs (maxSteps := 500000) (disch := first | decide | omega) only [↓preS, ↓reduceIte, allS, Nat.reduceBEq, Nat.reduceAdd, Nat.reduceEqDiff, reduceIte, Int.reduceToNat, Int.reduceLE, Int.reduceLT, Nat.reduceLeDiff, Nat.reduceMul, Nat.reducePow, Nat.reduceLT, Int.reduceBEq, Int.reduceBNe, Int.reduceAdd, Int.reduceSub, Int.reduceMul, Int.reduceGT, Int.reduceGE, decS, Int.reduceNe, Int.reduceEq]
  refine acK_of (FCall.of (lent := false) (c8) (.refl rfl) rfl (by simp)) ?_
  simp -implicitDefEqProofs (maxSteps := 500000) (disch := first | decide | omega) only [↓preS, ↓reduceIte, allS, Nat.reduceBEq, Nat.reduceAdd, Nat.reduceEqDiff, reduceIte, Int.reduceToNat, Int.reduceLE, Int.reduceLT, Nat.reduceLeDiff, Nat.reduceMul, Nat.reducePow, Nat.reduceLT, Int.reduceBEq, Int.reduceBNe, Int.reduceAdd, Int.reduceSub, Int.reduceMul, Int.reduceGT, Int.reduceGE, decS, Int.reduceNe, Int.reduceEq]
  refine acK_of (FCall.of (lent := false) (c6) (.refl rfl) rfl (by simp)) ?_
  simp -implicitDefEqProofs (maxSteps := 500000) (disch := first | decide | omega) only [↓preS, ↓reduceIte, allS, Nat.reduceBEq, Nat.reduceAdd, Nat.reduceEqDiff, reduceIte, Int.reduceToNat, Int.reduceLE, Int.reduceLT, Nat.reduceLeDiff, Nat.reduceMul, Nat.reducePow, Nat.reduceLT, Int.reduceBEq, Int.reduceBNe, Int.reduceAdd, Int.reduceSub, Int.reduceMul, Int.reduceGT, Int.reduceGE, decS, Int.reduceNe, Int.reduceEq]
  refine acK_of (FCall.of (lent := false) (c7) (.refl rfl) rfl (by simp)) ?_
  simp -implicitDefEqProofs (maxSteps := 500000) (disch := first | decide | omega) only [↓preS, ↓reduceIte, allS, Nat.reduceBEq, Nat.reduceAdd, Nat.reduceEqDiff, reduceIte, Int.reduceToNat, Int.reduceLE, Int.reduceLT, Nat.reduceLeDiff, Nat.reduceMul, Nat.reducePow, Nat.reduceLT, Int.reduceBEq, Int.reduceBNe, Int.reduceAdd, Int.reduceSub, Int.reduceMul, Int.reduceGT, Int.reduceGE, decS, Int.reduceNe, Int.reduceEq, ldo_cons1, part_int, List.getD_cons_zero, List.getD_cons_succ]
  first | refine And.intro (by decide) ?_ | skip
  unfold cc10L0
  simp -implicitDefEqProofs (maxSteps := 500000) (disch := first | decide | omega) only [↓preS, ↓reduceIte, allS, Nat.reduceBEq, Nat.reduceAdd, Nat.reduceEqDiff, reduceIte, Int.reduceToNat, Int.reduceLE, Int.reduceLT, Nat.reduceLeDiff, Nat.reduceMul, Nat.reducePow, Nat.reduceLT, Int.reduceBEq, Int.reduceBNe, Int.reduceAdd, Int.reduceSub, Int.reduceMul, Int.reduceGT, Int.reduceGE, decS, Int.reduceNe, Int.reduceEq]
  refine mloop2 ns labs pl ks nl r i (left - x) x _ j k hj hk ps us cs hcs _ (fun cs' hcs' hcu => ?_) _ (by (refine Sub.ofL [some 0, some 1, some 2, some 3, some 4] rfl (by simp) (by decide) (by simp [partL, AO.ro, AV.ro, AV.roL, names, AO.empty, SB, U8, SI, I64, STR] <;> (try and_intros) <;> rfl) (by simp [AO.bo, AV.bo, AV.boL, names] <;> (try and_intros) <;> rfl) ?_ <;> (try simp only [List.map_cons, List.map_nil, regsL, AV.ro, AV.roL, AV.bo, AV.boL, names, get_here, get_there, Nat.reduceBEq, List.getD_cons_zero, List.getD_cons_succ, List.getD_nil, and_true, true_and, Nat.reduceLT, List.length_cons, List.length_nil, Nat.reduceAdd, decide_true, Option.isSome_some, Bool.true_or, Bool.and_self, Option.isSome_none, Bool.false_or, beq_self_eq_true, wk0_self, wk0_nils]) <;> (try and_intros) <;> (first | done | rfl | exact .inl rfl | exact .inr ⟨rfl, _, _, rfl⟩ | (simp; done) | (simp; omega) | (refine .inl ?_; simp; done) | (refine .inl ?_; simp; omega))))
  simp -implicitDefEqProofs (maxSteps := 500000) (disch := first | decide | omega) only [↓preS, ↓reduceIte, allS, Nat.reduceBEq, Nat.reduceAdd, Nat.reduceEqDiff, reduceIte, Int.reduceToNat, Int.reduceLE, Int.reduceLT, Nat.reduceLeDiff, Nat.reduceMul, Nat.reducePow, Nat.reduceLT, Int.reduceBEq, Int.reduceBNe, Int.reduceAdd, Int.reduceSub, Int.reduceMul, Int.reduceGT, Int.reduceGE, decS, Int.reduceNe, Int.reduceEq]
  exact hQ _ cs' hcs' (by omega) (by omega) hcu)
set_option maxRecDepth 20000 in
set_option maxHeartbeats 16000000 in
theorem jloop2 (ns : List Int) (hns : ns.length < 2 ^ 62) (labs pl ks : List (List UInt8)) (hks : ks.length ≤ 7) (nl r : Nat) (i k : Nat) (hi : i ≤ 7) (hk : k < nl) (hnl : nl ≤ 2) (ps : Nat → List UInt8) (us : Nat → Int) (cs : Nat → List Cap) (hcs : ∀ q, q < 2 → (cs q).length = nl) (Q : AE → St → Prop)
    (hQ : ∀ lf, ∀ cs' : Nat → List Cap, (∀ q, q < 2 → (cs' q).length = nl) → Sh ps 2 ks k cs ks.length lf cs' → Q (.exit 8) ⟨[(1, .sl false 1 (ns.map I64)), (4, .ref 0 0 0), (6, .ref 1 0 0), (7, .sl false 1 (pl.map AV.str)), (11, .int .i64 (i : Int)), (12, .sl false 1 (ks.map AV.str)), (13, .int .i64 (k : Int)), (14, .int .i64 lf), (15, .int .i64 (ks.length : Int)), (108, .bool false)], [.box [.nils, .nils], .box [.sl false 1 (labs.map AV.str), .own 2 3 0 2], .box ([.str (ps 0), .own 3 2 0 nl, .int .i64 (us 0), .str (ps 1), .own 4 2 0 nl, .int .i64 (us 1)] ++ List.replicate r AV.any), .arr 2 ((cs' 0).map CAP), .arr 2 ((cs' 1).map CAP)]⟩) (s0 : St) (hs0 : Sub 0 (keepK (some [1, 4, 6, 7, 11, 12, 13, 14, 15]) s0) ⟨[(1, .sl false 1 (ns.map I64)), (4, .ref 0 0 0), (6, .ref 1 0 0), (7, .sl false 1 (pl.map AV.str)), (11, .int .i64 (i : Int)), (12, .sl false 1 (ks.map AV.str)), (13, .int .i64 (k : Int)), (14, .int .i64 10000), (15, .int .i64 (((0 : Nat) : Int) : Int))], [.box [.nils, .nils], .box [.sl false 1 (labs.map AV.str), .own 2 3 0 2], .box ([.str (ps 0), .own 3 2 0 nl, .int .i64 (us 0), .str (ps 1), .own 4 2 0 nl, .int .i64 (us 1)] ++ List.replicate r AV.any), .arr 2 ((cs 0).map CAP), .arr 2 ((cs 1).map CAP)]⟩) :
    aw Tryd.prog (.loop 0 (some [1, 4, 6, 7, 11, 12, 13, 14, 15]) cc10l1) Q s0 := by
  refine aw_loopS (σ := Nat × Int × (Nat → List Cap)) (fun q => ⟨[(1, .sl false 1 (ns.map I64)), (4, .ref 0 0 0), (6, .ref 1 0 0), (7, .sl false 1 (pl.map AV.str)), (11, .int .i64 (i : Int)), (12, .sl false 1 (ks.map AV.str)), (13, .int .i64 (k : Int)), (14, .int .i64 q.2.1), (15, .int .i64 (q.1 : Int))], [.box [.nils, .nils], .box [.sl false 1 (labs.map AV.str), .own 2 3 0 2], .box ([.str (ps 0), .own 3 2 0 nl, .int .i64 (us 0), .str (ps 1), .own 4 2 0 nl, .int .i64 (us 1)] ++ List.replicate r AV.any), .arr 2 ((q.2.2 0).map CAP), .arr 2 ((q.2.2 1).map CAP)]⟩) (fun q => q.1 ≤ ks.length ∧ 0 ≤ q.2.1 ∧ q.2.1 ≤ 10000 ∧ (∀ w, w < 2 → (q.2.2 w).length = nl) ∧ Sh ps 2 ks k cs q.1 q.2.1 q.2.2) (fun q => ks.length - q.1) (0, 10000, cs) hs0 ⟨by simp, by simp, by simp, hcs, .zero⟩ ?_
  rintro ⟨j, left, cz⟩ ⟨hj, hl0, hl1, hcs, hsh⟩
  simp only at hj hl0 hl1 hcs hsh ⊢
  unfold cc10l1
  by_cases hjk : j < ks.length
  · have c1 := pick_ok ns (i + j + k) hns
    rw [show (((i + j + k : Nat)) : Int) = (i : Int) + j + k by omega] at c1
    generalize pk ns (i + j + k) = v1 at c1
    have c2 := within_ok v1 (left + 1) (by omega) (by omega)
    have w2 := win_rng v1 (left + 1) (by omega)
    generalize win v1 (left + 1) = x1 at c2 w2
    have hij : i * j ≤ 7 * 7 := Nat.mul_le_mul hi (by omega)
    have c3 := pick_ok ns (i * j + k) hns
    rw [show (((i * j + k : Nat)) : Int) = (i : Int) * j + k by rw [Int.natCast_add, Int.natCast_mul]] at c3
    generalize pk ns (i * j + k) = v3 at c3
    have c4 := within_ok v3 4 (by omega) (by omega)
    have w4 := win_rng v3 4 (by omega)
    generalize win v3 4 = x4 at c4 w4
    have hij2 : 0 ≤ (i : Int) * j ∧ (i : Int) * j ≤ 49 := by
      have : ((i * j : Nat) : Int) = (i : Int) * j := Int.natCast_mul i j
      omega
    obtain ⟨h2, hw2, h20, h21⟩ := half_ok left hl0 hl1
    by_cases hlast : (j : Int) < (ks.length : Int) - 1
    · rcases (by omega : x4 = 0 ∨ x4 = 1 ∨ x4 = 2 ∨ x4 = 3) with rfl | rfl | rfl | rfl
      all_goals (
        simp -implicitDefEqProofs (maxSteps := 500000) (disch := first | decide | omega) only [↓preS, ↓reduceIte, allS, Nat.reduceBEq, Nat.reduceAdd, Nat.reduceEqDiff, reduceIte, Int.reduceToNat, Int.reduceLE, Int.reduceLT, Nat.reduceLeDiff, Nat.reduceMul, Nat.reducePow, Nat.reduceLT, Int.reduceBEq, Int.reduceBNe, Int.reduceAdd, Int.reduceSub, Int.reduceMul, Int.reduceGT, Int.reduceGE, decS, Int.reduceNe, Int.reduceEq, hw2]
        refine acK_of (FCall.of (lent := false) (c1) (.refl rfl) rfl (by simp)) ?_
        simp -implicitDefEqProofs (maxSteps := 500000) (disch := first | decide | omega) only [↓preS, ↓reduceIte, allS, Nat.reduceBEq, Nat.reduceAdd, Nat.reduceEqDiff, reduceIte, Int.reduceToNat, Int.reduceLE, Int.reduceLT, Nat.reduceLeDiff, Nat.reduceMul, Nat.reducePow, Nat.reduceLT, Int.reduceBEq, Int.reduceBNe, Int.reduceAdd, Int.reduceSub, Int.reduceMul, Int.reduceGT, Int.reduceGE, decS, Int.reduceNe, Int.reduceEq, hw2]
        refine acK_of (FCall.of (lent := false) (c2) (.refl rfl) rfl (by simp)) ?_
        simp -implicitDefEqProofs (maxSteps := 500000) (disch := first | decide | omega) only [↓preS, ↓reduceIte, allS, Nat.reduceBEq, Nat.reduceAdd, Nat.reduceEqDiff, reduceIte, Int.reduceToNat, Int.reduceLE, Int.reduceLT, Nat.reduceLeDiff, Nat.reduceMul, Nat.reducePow, Nat.reduceLT, Int.reduceBEq, Int.reduceBNe, Int.reduceAdd, Int.reduceSub, Int.reduceMul, Int.reduceGT, Int.reduceGE, decS, Int.reduceNe, Int.reduceEq, hw2]
        refine acK_of (FCall.of (lent := false) (c3) (.refl rfl) rfl (by simp)) ?_
        simp -implicitDefEqProofs (maxSteps := 500000) (disch := first | decide | omega) only [↓preS, ↓reduceIte, allS, Nat.reduceBEq, Nat.reduceAdd, Nat.reduceEqDiff, reduceIte, Int.reduceToNat, Int.reduceLE, Int.reduceLT, Nat.reduceLeDiff, Nat.reduceMul, Nat.reducePow, Nat.reduceLT, Int.reduceBEq, Int.reduceBNe, Int.reduceAdd, Int.reduceSub, Int.reduceMul, Int.reduceGT, Int.reduceGE, decS, Int.reduceNe, Int.reduceEq]
        refine acK_of (FCall.of (lent := false) (c4) (.refl rfl) rfl (by simp)) ?_
        simp -implicitDefEqProofs (maxSteps := 500000) (disch := first | decide | omega) only [↓preS, ↓reduceIte, allS, Nat.reduceBEq, Nat.reduceAdd, Nat.reduceEqDiff, reduceIte, Int.reduceToNat, Int.reduceLE, Int.reduceLT, Nat.reduceLeDiff, Nat.reduceMul, Nat.reducePow, Nat.reduceLT, Int.reduceBEq, Int.reduceBNe, Int.reduceAdd, Int.reduceSub, Int.reduceMul, Int.reduceGT, Int.reduceGE, decS, Int.reduceNe, Int.reduceEq, ldo_cons1, part_int, List.getD_cons_zero, List.getD_cons_succ]
        first | refine And.intro (by decide) ?_ | skip)
      · refine mid2g ns hns labs pl ks nl r i j k left 0 hi hjk hks hk hnl (by omega) (by omega) hl1 ps us cz hcs _ _ fun y cs' hcs' hy1 hy2 hcu => ?_
        simp -implicitDefEqProofs (maxSteps := 500000) (disch := first | decide | omega) only [↓preS, ↓reduceIte, allS, Nat.reduceBEq, Nat.reduceAdd, Nat.reduceEqDiff, reduceIte, Int.reduceToNat, Int.reduceLE, Int.reduceLT, Nat.reduceLeDiff, Nat.reduceMul, Nat.reducePow, Nat.reduceLT, Int.reduceBEq, Int.reduceBNe, Int.reduceAdd, Int.reduceSub, Int.reduceMul, Int.reduceGT, Int.reduceGE, decS, Int.reduceNe, Int.reduceEq]
        refine ⟨(j + 1, left, cs'), ?_, ⟨by simp only; omega, by simp only; omega, by simp only; omega, hcs', (by simp only; rw [hcu]; exact (Sh.step (x := 0) (y := y) hjk hsh (by omega) (by omega) hy1 hy2 (by omega)).of (by omega))⟩, by simp only; omega⟩
        first | exact .inl rfl | (simp only [Int.sub_self, Int.sub_zero]; exact .inl rfl)
      · refine mid2g ns hns labs pl ks nl r i j k left h2 hi hjk hks hk hnl (by omega) (by omega) hl1 ps us cz hcs _ _ fun y cs' hcs' hy1 hy2 hcu => ?_
        simp -implicitDefEqProofs (maxSteps := 500000) (disch := first | decide | omega) only [↓preS, ↓reduceIte, allS, Nat.reduceBEq, Nat.reduceAdd, Nat.reduceEqDiff, reduceIte, Int.reduceToNat, Int.reduceLE, Int.reduceLT, Nat.reduceLeDiff, Nat.reduceMul, Nat.reducePow, Nat.reduceLT, Int.reduceBEq, Int.reduceBNe, Int.reduceAdd, Int.reduceSub, Int.reduceMul, Int.reduceGT, Int.reduceGE, decS, Int.reduceNe, Int.reduceEq]
        refine ⟨(j + 1, left - h2, cs'), ?_, ⟨by simp only; omega, by simp only; omega, by simp only; omega, hcs', (by simp only; rw [hcu]; exact (Sh.step (x := h2) (y := y) hjk hsh (by omega) (by omega) hy1 hy2 (by omega)).of (by omega))⟩, by simp only; omega⟩
        first | exact .inl rfl | (simp only [Int.sub_self, Int.sub_zero]; exact .inl rfl)
      · refine mid2g ns hns labs pl ks nl r i j k left left hi hjk hks hk hnl (by omega) (by omega) hl1 ps us cz hcs _ _ fun y cs' hcs' hy1 hy2 hcu => ?_
        simp -implicitDefEqProofs (maxSteps := 500000) (disch := first | decide | omega) only [↓preS, ↓reduceIte, allS, Nat.reduceBEq, Nat.reduceAdd, Nat.reduceEqDiff, reduceIte, Int.reduceToNat, Int.reduceLE, Int.reduceLT, Nat.reduceLeDiff, Nat.reduceMul, Nat.reducePow, Nat.reduceLT, Int.reduceBEq, Int.reduceBNe, Int.reduceAdd, Int.reduceSub, Int.reduceMul, Int.reduceGT, Int.reduceGE, decS, Int.reduceNe, Int.reduceEq]
        refine ⟨(j + 1, 0, cs'), ?_, ⟨by simp only; omega, by simp only; omega, by simp only; omega, hcs', (by simp only; rw [hcu]; exact (Sh.step (x := left) (y := y) hjk hsh (by omega) (by omega) hy1 hy2 (by omega)).of (by omega))⟩, by simp only; omega⟩
        first | exact .inl rfl | (simp only [Int.sub_self, Int.sub_zero]; exact .inl rfl)
      · refine mid2g ns hns labs pl ks nl r i j k left x1 hi hjk hks hk hnl (by omega) (by omega) hl1 ps us cz hcs _ _ fun y cs' hcs' hy1 hy2 hcu => ?_
        simp -implicitDefEqProofs (maxSteps := 500000) (disch := first | decide | omega) only [↓preS, ↓reduceIte, allS, Nat.reduceBEq, Nat.reduceAdd, Nat.reduceEqDiff, reduceIte, Int.reduceToNat, Int.reduceLE, Int.reduceLT, Nat.reduceLeDiff, Nat.reduceMul, Nat.reducePow, Nat.reduceLT, Int.reduceBEq, Int.reduceBNe, Int.reduceAdd, Int.reduceSub, Int.reduceMul, Int.reduceGT, Int.reduceGE, decS, Int.reduceNe, Int.reduceEq]
        refine ⟨(j + 1, left - x1, cs'), ?_, ⟨by simp only; omega, by simp only; omega, by simp only; omega, hcs', (by simp only; rw [hcu]; exact (Sh.step (x := x1) (y := y) hjk hsh (by omega) (by omega) hy1 hy2 (by omega)).of (by omega))⟩, by simp only; omega⟩
        first | exact .inl rfl | (simp only [Int.sub_self, Int.sub_zero]; exact .inl rfl)
    · simp -implicitDefEqProofs (maxSteps := 500000) (disch := first | decide | omega) only [↓preS, ↓reduceIte, allS, Nat.reduceBEq, Nat.reduceAdd, Nat.reduceEqDiff, reduceIte, Int.reduceToNat, Int.reduceLE, Int.reduceLT, Nat.reduceLeDiff, Nat.reduceMul, Nat.reducePow, Nat.reduceLT, Int.reduceBEq, Int.reduceBNe, Int.reduceAdd, Int.reduceSub, Int.reduceMul, Int.reduceGT, Int.reduceGE, decS, Int.reduceNe, Int.reduceEq]
      refine mid2 ns hns labs pl ks nl r i j k left left hi hjk hks hk hnl hl0 (by omega) hl1 ps us cz hcs _ fun y cs' hcs' hy1 hy2 hcu => ?_
      simp -implicitDefEqProofs (maxSteps := 500000) (disch := first | decide | omega) only [↓preS, ↓reduceIte, allS, Nat.reduceBEq, Nat.reduceAdd, Nat.reduceEqDiff, reduceIte, Int.reduceToNat, Int.reduceLE, Int.reduceLT, Nat.reduceLeDiff, Nat.reduceMul, Nat.reducePow, Nat.reduceLT, Int.reduceBEq, Int.reduceBNe, Int.reduceAdd, Int.reduceSub, Int.reduceMul, Int.reduceGT, Int.reduceGE, decS, Int.reduceNe, Int.reduceEq]
      refine ⟨(j + 1, 0, cs'), ?_, ⟨by simp only; omega, by simp only; omega, by simp only; omega, hcs', (by simp only; rw [hcu]; exact (Sh.step (x := left) (y := y) hjk hsh (by omega) (by omega) hy1 hy2 (by omega)).of (by omega))⟩, by simp only; omega⟩
      first | exact .inl rfl | (simp only [Int.sub_self, Int.sub_zero]; exact .inl rfl)
  · have : j = ks.length := by omega
    subst this
    simp -implicitDefEqProofs (maxSteps := 500000) (disch := first | decide | omega) only [↓preS, ↓reduceIte, allS, Nat.reduceBEq, Nat.reduceAdd, Nat.reduceEqDiff, reduceIte, Int.reduceToNat, Int.reduceLE, Int.reduceLT, Nat.reduceLeDiff, Nat.reduceMul, Nat.reducePow, Nat.reduceLT, Int.reduceBEq, Int.reduceBNe, Int.reduceAdd, Int.reduceSub, Int.reduceMul, Int.reduceGT, Int.reduceGE, decS, Int.reduceNe, Int.reduceEq]
    exact hQ left cz hcs hsh
set_option maxRecDepth 20000 in
set_option maxHeartbeats 16000000 in
theorem mid3 (ns : List Int) (hns : ns.length < 2 ^ 62) (labs pl ks : List (List UInt8)) (nl r : Nat) (i j k : Nat) (left x : Int) (hi : i ≤ 7) (hj : j < ks.length) (hks : ks.length ≤ 7) (hk : k < nl) (hnl : nl ≤ 2) (hx0 : 0 ≤ x) (hx1 : x ≤ left) (hl1 : left ≤ 10000) (ps : Nat → List UInt8) (us : Nat → Int) (cs : Nat → List Cap) (hcs : ∀ q, q < 3 → (cs q).length = nl) (Q : AE → St → Prop)
    (hQ : ∀ (y : Int) (cs' : Nat → List Cap), (∀ q, q < 3 → (cs' q).length = nl) → x ≤ y → y ≤ 10000 → cs' = updK ps 3 ks[j] k ⟨x, y⟩ cs → Q .normal ⟨[(1, .sl false 1 (ns.map I64)), (4, .ref 0 0 0), (6, .ref 1 0 0), (7, .sl false 1 (pl.map AV.str)), (11, .int .i64 (i : Int)), (12, .sl false 1 (ks.map AV.str)), (13, .int .i64 (k : Int)), (14, .int .i64 (left - x)), (15, .int .i64 (j : Int))], [.box [.nils, .nils], .box [.sl false 1 (labs.map AV.str), .own 2 3 0 3], .box ([.str (ps 0), .own 3 2 0 nl, .int .i64 (us 0), .str (ps 1), .own 4 2 0 nl, .int .i64 (us 1), .str (ps 2), .own 5 2 0 nl, .int .i64 (us 2)] ++ List.replicate r AV.any), .arr 2 ((cs' 0).map CAP), .arr 2 ((cs' 1).map CAP), .arr 2 ((cs' 2).map CAP)]⟩) :
    aw Tryd.prog cc10T141 Q ⟨[(1, .sl false 1 (ns.map I64)), (4, .ref 0 0 0), (6, .ref 1 0 0), (7, .sl false 1 (pl.map AV.str)), (11, .int .i64 (i : Int)), (12, .sl false 1 (ks.map AV.str)), (13, .int .i64 (k : Int)), (14, .int .i64 left), (15, .int .i64 (j : Int)), (16, .int .i64 x)], [.box [.nils, .nils], .box [.sl false 1 (labs.map AV.str), .own 2 3 0 3], .box ([.str (ps 0), .own 3 2 0 nl, .int .i64 (us 0), .str (ps 1), .own 4 2 0 nl, .int .i64 (us 1), .str (ps 2), .own 5 2 0 nl, .int .i64 (us 2)] ++ List.replicate r AV.any), .arr 2 ((cs 0).map CAP), .arr 2 ((cs 1).map CAP), .arr 2 ((cs 2).map CAP)]⟩ := by
  unfold cc10T141
  have c5 := pick_ok ns (j + k) hns
  rw [show (((j + k : Nat)) : Int) = (j : Int) + k by omega] at c5
  generalize pk ns (j + k) = v5 at c5
  have c8 := within_ok v5 (10000 - x + 1) (by omega) (by omega)
  have w8 := win_rng v5 (10000 - x + 1) (by omega)
  generalize win v5 (10000 - x + 1) = x8 at c8 w8
  have c6 := pick_ok ns (i + 2 * j) hns
  rw [show (((i + 2 * j : Nat)) : Int) = (i : Int) + 2 * j by omega] at c6
  generalize pk ns (i + 2 * j) = v6 at c6
  have c7 := within_ok v6 3 (by omega) (by omega)
  have w7 := win_rng v6 3 (by omega)
  generalize win v6 3 = x7 at c7 w7
  rcases (by omega : x7 = 0 ∨ x7 = 1 ∨ x7 = 2) with rfl | rfl | rfl <;> (
  simp -implicitDefEqProofs (maxSteps := 500000) (disch := first | decide | omega) only [↓preS, ↓reduceIte, allS, Nat.reduceBEq, Nat.reduceAdd, Nat.reduceEqDiff, reduceIte, Int.reduceToNat, Int.reduceLE, Int.reduceLT, Nat.reduceLeDiff, Nat.reduceMul, Nat.reducePow, Nat.reduceLT, Int.reduceBEq, Int.reduceBNe, Int.reduceAdd, Int.reduceSub, Int.reduceMul, Int.reduceGT, Int.reduceGE, decS, Int.reduceNe, Int.reduceEq]
  refine acK_of (FCall.of (lent := false) (c5) (.refl rfl) rfl (by simp)) ?_
  simp -implicitDefEqProofs (maxSteps := 500000) (disch := first | decide | omega) only [↓preS, ↓reduceIte, allS, Nat.reduceBEq, Nat.reduceAdd, Nat.reduceEqDiff, reduceIte, Int.reduceToNat, Int.reduceLE, Int.reduceLT, Nat.reduceLeDiff, Nat.reduceMul, Nat.reducePow, Nat.reduceLT, Int.reduceBEq, Int.reduceBNe, Int.reduceAdd, Int.reduceSub, Int.reduceMul, Int.reduceGT, Int.reduceGE, decS, Int.reduceNe, Int.reduceEq]
  refine acK_of (FCall.of (lent := false) (c8) (.refl rfl) rfl (by simp)) ?_
  simp -implicitDefEqProofs (maxSteps := 500000) (disch := first | decide | omega) only [↓preS, ↓reduceIte, allS, Nat.reduceBEq, Nat.reduceAdd, Nat.reduceEqDiff, reduceIte, Int.reduceToNat, Int.reduceLE, Int.reduceLT, Nat.reduceLeDiff, Nat.reduceMul, Nat.reducePow, Nat.reduceLT, Int.reduceBEq, Int.reduceBNe, Int.reduceAdd, Int.reduceSub, Int.reduceMul, Int.reduceGT, Int.reduceGE, decS, Int.reduceNe, Int.reduceEq]
  refine acK_of (FCall.of (lent := false) (c6) (.refl rfl) rfl (by simp)) ?_
  simp -implicitDefEqProofs (maxSteps := 500000) (disch := first | decide | omega) only [↓preS, ↓reduceIte, allS, Nat.reduceBEq, Nat.reduceAdd, Nat.reduceEqDiff, reduceIte, Int.reduceToNat, Int.reduceLE, Int.reduceLT, Nat.reduceLeDiff, Nat.reduceMul, Nat.reducePow, Nat.reduceLT, Int.reduceBEq, Int.reduceBNe, Int.reduceAdd, Int.reduceSub, Int.reduceMul, Int.reduceGT, Int.reduceGE, decS, Int.reduceNe, Int.reduceEq]
  refine acK_of (FCall.of (lent := false) (c7) (.refl rfl) rfl (by simp)) ?_
  simp -implicitDefEqProofs (maxSteps := 500000) (disch := first | decide | omega) only [↓preS, ↓reduceIte, allS, Nat.reduceBEq, Nat.reduceAdd, Nat.reduceEqDiff, reduceIte, Int.reduceToNat, Int.reduceLE, Int.reduceLT, Nat.reduceLeDiff, Nat.reduceMul, Nat.reducePow, Nat.reduceLT, Int.reduceBEq, Int.reduceBNe, Int.reduceAdd, Int.reduceSub, Int.reduceMul, Int.reduceGT, Int.reduceGE, decS, Int.reduceNe, Int.reduceEq, ldo_cons1, part_int, List.getD_cons_zero, List.getD_cons_succ]
  first | refine And.intro (by decide) ?_ | skip
  unfold cc10L0
  simp -implicitDefEqProofs (maxSteps := 500000) (disch := first | decide | omega) only [↓preS, ↓reduceIte, allS, Nat.reduceBEq, Nat.reduceAdd, Nat.reduceEqDiff, reduceIte, Int.reduceToNat, Int.reduceLE, Int.reduceLT, Nat.reduceLeDiff, Nat.reduceMul, Nat.reducePow, Nat.reduceLT, Int.reduceBEq, Int.reduceBNe, Int.reduceAdd, Int.reduceSub, Int.reduceMul, Int.reduceGT, Int.reduceGE, decS, Int.reduceNe, Int.reduceEq]
  refine mloop3 ns labs pl ks nl r i (left - x) x _ j k hj hk ps us cs hcs _ (fun cs' hcs' hcu => ?_) _ (by (refine Sub.ofL [some 0, some 1, some 2, some 3, some 4, some 5] rfl (by simp) (by decide) (by simp [partL, AO.ro, AV.ro, AV.roL, names, AO.empty, SB, U8, SI, I64, STR] <;> (try and_intros) <;> rfl) (by simp [AO.bo, AV.bo, AV.boL, names] <;> (try and_intros) <;> rfl) ?_ <;> (try simp only [List.map_cons, List.map_nil, regsL, AV.ro, AV.roL, AV.bo, AV.boL, names, get_here, get_there, Nat.reduceBEq, List.getD_cons_zero, List.getD_cons_succ, List.getD_nil, and_true, true_and, Nat.reduceLT, List.length_cons, List.length_nil, Nat.reduceAdd, decide_true, Option.isSome_some, Bool.true_or, Bool.and_self, Option.isSome_none, Bool.false_or, beq_self_eq_true, wk0_self, wk0_nils]) <;> (try and_intros) <;> (first | done | rfl | exact .inl rfl | exact .inr ⟨rfl, _, _, rfl⟩ | (simp; done) | (simp; omega) | (refine .inl ?_; simp; done) | (refine .inl ?_; simp; omega))))
  simp -implicitDefEqProofs (maxSteps := 500000) (disch := first | decide | omega) only [↓preS, ↓reduceIte, allS, Nat.reduceBEq, Nat.reduceAdd, Nat.reduceEqDiff, reduceIte, Int.reduceToNat, Int.reduceLE, Int.reduceLT, Nat.reduceLeDiff, Nat.reduceMul, Nat.reducePow, Nat.reduceLT, Int.reduceBEq, Int.reduceBNe, Int.reduceAdd, Int.reduceSub, Int.reduceMul, Int.reduceGT, Int.reduceGE, decS, Int.reduceNe, Int.reduceEq]
  exact hQ _ cs' hcs' (by omega) (by omega) hcu)
set_option maxRecDepth 20000 in
set_option maxHeartbeats 16000000 in
theorem mid3g (ns : List Int) (hns : ns.length < 2 ^ 62) (labs pl ks : List (List UInt8)) (nl r : Nat) (i j k : Nat) (left x : Int) (hi : i ≤ 7) (hj : j < ks.length) (hks : ks.length ≤ 7) (hk : k < nl) (hnl : nl ≤ 2) (hx0 : 0 ≤ x) (hx1 : x ≤ left) (hl1 : left ≤ 10000) (ps : Nat → List UInt8) (us : Nat → Int) (cs : Nat → List Cap) (hcs : ∀ q, q < 3 → (cs q).length = nl) (gl : List AV) (Q : AE → St → Prop)
    (hQ : ∀ (y : Int) (cs' : Nat → List Cap), (∀ q, q < 3 → (cs' q).length = nl) → x ≤ y → y ≤ 10000 → cs' = updK ps 3 ks[j] k ⟨x, y⟩ cs → Q .normal ⟨[(1, .sl false 1 (ns.map I64)), (4, .ref 0 0 0), (6, .ref 1 0 0), (7, .sl false 1 (pl.map AV.str)), (11, .int .i64 (i : Int)), (12, .sl false 1 (ks.map AV.str)), (13, .int .i64 (k : Int)), (14, .int .i64 (left - x)), (15, .int .i64 (j : Int))], [.box [.nils, .nils], .box [.sl false 1 (labs.map AV.str), .own 2 3 0 3], .box ([.str (ps 0), .own 3 2 0 nl, .int .i64 (us 0), .str (ps 1), .own 4 2 0 nl, .int .i64 (us 1), .str (ps 2), .own 5 2 0 nl, .int .i64 (us 2)] ++ List.replicate r AV.any), .arr 2 ((cs' 0).map CAP), .arr 2 ((cs' 1).map CAP), .arr 2 ((cs' 2).map CAP)]⟩) :
    aw Tryd.prog cc10T141 Q ⟨[(1, .sl false 1 (ns.map I64)), (4, .ref 0 0 0), (6, .ref 1 0 0), (7, .sl false 1 (pl.map AV.str)), (11, .int .i64 (i : Int)), (12, .sl false 1 (ks.map AV.str)), (13, .int .i64 (k : Int)), (14, .int .i64 left), (15, .int .i64 (j : Int)), (16, .int .i64 x)], [.box [.nils, .nils], .box [.sl false 1 (labs.map AV.str), .own 2 3 0 3], .box ([.str (ps 0), .own 3 2 0 nl, .int .i64 (us 0), .str (ps 1), .own 4 2 0 nl, .int .i64 (us 1), .str (ps 2), .own 5 2 0 nl, .int .i64 (us 2)] ++ List.replicate r AV.any), .arr 2 ((cs 0).map CAP), .arr 2 ((cs 1).map CAP), .arr 2 ((cs 2).map CAP), .arr 1 gl]⟩ := by
  unfold cc10T141
  have c5 := pick_ok ns (j + k) hns
  rw [show (((j + k : Nat)) : Int) = (j : Int) + k by omega] at c5
  generalize pk ns (j + k) = v5 at c5
  have c8 := within_ok v5 (10000 - x + 1) (by omega) (by omega)
  have w8 := win_rng v5 (10000 - x + 1) (by omega)
  generalize win v5 (10000 - x + 1) = x8 at c8 w8
  have c6 := pick_ok ns (i + 2 * j) hns
  rw [show (((i + 2 * j : Nat)) : Int) = (i : Int) + 2 * j by omega] at c6
  generalize pk ns (i + 2 * j) = v6 at c6
  have c7 := within_ok v6 3 (by omega) (by omega)
  have w7 := win_rng v6 3 (by omega)
  generalize win v6 3 = x7 at c7 w7
  rcases (by omega : x7 = 0 ∨ x7 = 1 ∨ x7 = 2) with rfl | rfl | rfl <;> (
  simp -implicitDefEqProofs (maxSteps := 500000) (disch := first | decide | omega) only [↓preS, ↓reduceIte, allS, Nat.reduceBEq, Nat.reduceAdd, Nat.reduceEqDiff, reduceIte, Int.reduceToNat, Int.reduceLE, Int.reduceLT, Nat.reduceLeDiff, Nat.reduceMul, Nat.reducePow, Nat.reduceLT, Int.reduceBEq, Int.reduceBNe, Int.reduceAdd, Int.reduceSub, Int.reduceMul, Int.reduceGT, Int.reduceGE, decS, Int.reduceNe, Int.reduceEq]
  refine acK_of (FCall.of (lent := false) (c5) (.refl rfl) rfl (by simp)) ?_
  simp -implicitDefEqProofs (maxSteps := 500000) (disch := first | decide | omega) only [↓preS, ↓reduceIte, allS, Nat.reduceBEq, Nat.reduceAdd, Nat.reduceEqDiff, reduceIte, Int.reduceToNat, Int.reduceLE, Int.reduceLT, Nat.reduceLeDiff, Nat.reduceMul, Nat.reducePow, Nat.reduceLT, Int.reduceBEq, Int.reduceBNe, Int.reduceAdd, Int.reduceSub, Int.reduceMul, Int.reduceGT, Int.reduceGE, decS, Int.reduceNe, Int.reduceEq]
  refine acK_of (FCall.of (lent := false) (c8) (.refl rfl) rfl (by simp)) ?_
  simp -implicitDefEqProofs (maxSteps := 500000) (disch := first | decide | omega) only [↓preS, ↓reduceIte, allS, Nat.reduceBEq, Nat.reduceAdd, Nat.reduceEqDiff, reduceIte, Int.reduceToNat, Int.reduceLE, Int.reduceLT, Nat.reduceLeDiff, Nat.reduceMul, Nat.reducePow, Nat.reduceLT, Int.reduceBEq, Int.reduceBNe, Int.reduceAdd, Int.reduceSub, Int.reduceMul, Int.reduceGT, Int.reduceGE, decS, Int.reduceNe, Int.reduceEq]
  refine acK_of (FCall.of (lent := false) (c6) (.refl rfl) rfl (by simp)) ?_
  simp -implicitDefEqProofs (maxSteps := 500000) (disch := first | decide | omega) only [↓preS, ↓reduceIte, allS, Nat.reduceBEq, Nat.reduceAdd, Nat.reduceEqDiff, reduceIte, Int.reduceToNat, Int.reduceLE, Int.reduceLT, Nat.reduceLeDiff, Nat.reduceMul, Nat.reducePow, Nat.reduceLT, Int.reduceBEq, Int.reduceBNe, Int.reduceAdd, Int.reduceSub, Int.reduceMul, Int.reduceGT, Int.reduceGE, decS, Int.reduceNe, Int.reduceEq]
  refine acK_of (FCall.of (lent := false) (c7) (.refl rfl) rfl (by simp)) ?_
  simp -implicitDefEqProofs (maxSteps := 500000) (disch := first | decide | omega) only [↓preS, ↓reduceIte, allS, Nat.reduceBEq, Nat.reduceAdd, Nat.reduceEqDiff, reduceIte, Int.reduceToNat, Int.reduceLE, Int.reduceLT, Nat.reduceLeDiff, Nat.reduceMul, Nat.reducePow, Nat.reduceLT, Int.reduceBEq, Int.reduceBNe, Int.reduceAdd, Int.reduceSub, Int.reduceMul, Int.reduceGT, Int.reduceGE, decS, Int.reduceNe, Int.reduceEq, ldo_cons1, part_int, List.getD_cons_zero, List.getD_cons_succ]
  first | refine And.intro (by decide) ?_ | skip
  unfold cc10L0
  simp -implicitDefEqProofs (maxSteps := 500000) (disch := first | decide | omega) only [↓preS, ↓reduceIte, allS, Nat.reduceBEq, Nat.reduceAdd, Nat.reduceEqDiff, reduceIte, Int.reduceToNat, Int.reduceLE, Int.reduceLT, Nat.reduceLeDiff, Nat.reduceMul, Nat.reducePow, Nat.reduceLT, Int.reduceBEq, Int.reduceBNe, Int.reduceAdd, Int.reduceSub, Int.reduceMul, Int.reduceGT, Int.reduceGE, decS, Int.reduceNe, Int.reduceEq]
  refine mloop3 ns labs pl ks nl r i (left - x) x _ j k hj hk ps us cs hcs _ (fun cs' hcs' hcu => ?_) _ (by (refine Sub.ofL [some 0, some 1, some 2, some 3, some 4, some 5] rfl (by simp) (by decide) (by simp [partL, AO.ro, AV.ro, AV.roL, names, AO.empty, SB, U8, SI, I64, STR] <;> (try and_intros) <;> rfl) (by simp [AO.bo, AV.bo, AV.boL, names] <;> (try and_intros) <;> rfl) ?_ <;> (try simp only [List.map_cons, List.map_nil, regsL, AV.ro, AV.roL, AV.bo, AV.boL, names, get_here, get_there, Nat.reduceBEq, List.getD_cons_zero, List.getD_cons_succ, List.getD_nil, and_true, true_and, Nat.reduceLT, List.length_cons, List.length_nil, Nat.reduceAdd, decide_true, Option.isSome_some, Bool.true_or, Bool.and_self, Option.isSome_none, Bool.false_or, beq_self_eq_true, wk0_self, wk0_nils]) <;> (try and_intros) <;> (first | done | rfl | exact .inl rfl | exact .inr ⟨rfl, _, _, rfl⟩ | (simp; done) | (simp; omega) | (refine .inl ?_; simp; done) | (refine .inl ?_; simp; omega))))
  simp -implicitDefEqProofs (maxSteps := 500000) (disch := first | decide | omega) only [↓preS, ↓reduceIte, allS, Nat.reduceBEq, Nat.reduceAdd, Nat.reduceEqDiff, reduceIte, Int.reduceToNat, Int.reduceLE, Int.reduceLT, Nat.reduceLeDiff, Nat.reduceMul, Nat.reducePow, Nat.reduceLT, Int.reduceBEq, Int.reduceBNe, Int.reduceAdd, Int.reduceSub, Int.reduceMul, Int.reduceGT, Int.reduceGE, decS, Int.reduceNe, Int.reduceEq]
  exact hQ _ cs' hcs' (by omega) (by omega) hcu)
set_option maxRecDepth 20000 in
set_option maxHeartbeats 16000000 in
theorem jloop3 (ns : List Int) (hns : ns.length < 2 ^ 62) (labs pl ks : List (List UInt8)) (hks : ks.length ≤ 7) (nl r : Nat) (i k : Nat) (hi : i ≤ 7) (hk : k < nl) (hnl : nl ≤ 2) (ps : Nat → List UInt8) (us : Nat → Int) (cs : Nat → List Cap) (hcs : ∀ q, q < 3 → (cs q).length = nl) (Q : AE → St → Prop)
    (hQ : ∀ lf, ∀ cs' : Nat → List Cap, (∀ q, q < 3 → (cs' q).length = nl) → Sh ps 3 ks k cs ks.length lf cs' → Q (.exit 8) ⟨[(1, .sl false 1 (ns.map I64)), (4, .ref 0 0 0), (6, .ref 1 0 0), (7, .sl false 1 (pl.map AV.str)), (11, .int .i64 (i : Int)), (12, .sl false 1 (ks.map AV.str)), (13, .int .i64 (k : Int)), (14, .int .i64 lf), (15, .int .i64 (ks.length : Int)), (108, .bool false)], [.box [.nils, .nils], .box [.sl false 1 (labs.map AV.str), .own 2 3 0 3], .box ([.str (ps 0), .own 3 2 0 nl, .int .i64 (us 0), .str (ps 1), .own 4 2 0 nl, .int .i64 (us 1), .str (ps 2), .own 5 2 0 nl, .int .i64 (us 2)] ++ List.replicate r AV.any), .arr 2 ((cs' 0).map CAP), .arr 2 ((cs' 1).map CAP), .arr 2 ((cs' 2).map CAP)]⟩) (s0 : St) (hs0 : Sub 0 (keepK (some [1, 4, 6, 7, 11, 12, 13, 14, 15]) s0) ⟨[(1, .sl false 1 (ns.map I64)), (4, .ref 0 0 0), (6, .ref 1 0 0), (7, .sl false 1 (pl.map AV.str)), (11, .int .i64 (i : Int)), (12, .sl false 1 (ks.map AV.str)), (13, .int .i64 (k : Int)), (14, .int .i64 10000), (15, .int .i64 (((0 : Nat) : Int) : Int))], [.box [.nils, .nils], .box [.sl false 1 (labs.map AV.str), .own 2 3 0 3], .box ([.str (ps 0), .own 3 2 0 nl, .int .i64 (us 0), .str (ps 1), .own 4 2 0 nl, .int .i64 (us 1), .str (ps 2), .own 5 2 0 nl, .int .i64 (us 2)] ++ List.replicate r AV.any), .arr 2 ((cs 0).map CAP), .arr 2 ((cs 1).map CAP), .arr 2 ((cs 2).map CAP)]⟩) :
    aw Tryd.prog (.loop 0 (some [1, 4, 6, 7, 11, 12, 13, 14, 15]) cc10l1) Q s0 := by
  refine aw_loopS (σ := Nat × Int × (Nat → List Cap)) (fun q => ⟨[(1, .sl false 1 (ns.map I64)), (4, .ref 0 0 0), (6, .ref 1 0 0), (7, .sl false 1 (pl.map AV.str)), (11, .int .i64 (i : Int)), (12, .sl false 1 (ks.map AV.str)), (13, .int .i64 (k : Int)), (14, .int .i64 q.2.1), (15, .int .i64 (q.1 : Int))], [.box [.nils, .nils], .box [.sl false 1 (labs.map AV.str), .own 2 3 0 3], .box ([.str (ps 0), .own 3 2 0 nl, .int .i64 (us 0), .str (ps 1), .own 4 2 0 nl, .int .i64 (us 1), .str (ps 2), .own 5 2 0 nl, .int .i64 (us 2)] ++ List.replicate r AV.any), .arr 2 ((q.2.2 0).map CAP), .arr 2 ((q.2.2 1).map CAP), .arr 2 ((q.2.2 2).map CAP)]⟩) (fun q => q.1 ≤ ks.length ∧ 0 ≤ q.2.1 ∧ q.2.1 ≤ 10000 ∧ (∀ w, w < 3 → (q.2.2 w).length = nl) ∧ Sh ps 3 ks k cs q.1 q.2.1 q.2.2) (fun q => ks.length - q.1) (0, 10000, cs) hs0 ⟨by simp, by simp, by simp, hcs, .zero⟩ ?_
  rintro ⟨j, left, cz⟩ ⟨hj, hl0, hl1, hcs, hsh⟩
  simp only at hj hl0 hl1 hcs hsh ⊢
  unfold cc10l1
  by_cases hjk : j < ks.length
  · have c1 := pick_ok ns (i + j + k) hns
    rw [show (((i + j + k : Nat)) : Int) = (i : Int) + j + k by omega] at c1
    generalize pk ns (i + j + k) = v1 at c1
    have c2 := within_ok v1 (left + 1) (by omega) (by omega)
    have w2 := win_rng v1 (left + 1) (by omega)
    generalize win v1 (left + 1) = x1 at c2 w2
    have hij : i * j ≤ 7 * 7 := Nat.mul_le_mul hi (by omega)
    have c3 := pick_ok ns (i * j + k) hns
    rw [show (((i * j + k : Nat)) : Int) = (i : Int) * j + k by rw [Int.natCast_add, Int.natCast_mul]] at c3
    generalize pk ns (i * j + k) = v3 at c3
    have c4 := within_ok v3 4 (by omega) (by omega)
    have w4 := win_rng v3 4 (by omega)
    generalize win v3 4 = x4 at c4 w4
    have hij2 : 0 ≤ (i : Int) * j ∧ (i : Int) * j ≤ 49 := by
      have : ((i * j : Nat) : Int) = (i : Int) * j := Int.natCast_mul i j
      omega
    obtain ⟨h2, hw2, h20, h21⟩ := half_ok left hl0 hl1
    by_cases hlast : (j : Int) < (ks.length : Int) - 1
    · rcases (by omega : x4 = 0 ∨ x4 = 1 ∨ x4 = 2 ∨ x4 = 3) with rfl | rfl | rfl | rfl
      all_goals (
        simp -implicitDefEqProofs (maxSteps := 500000) (disch := first | decide | omega) only [↓preS, ↓reduceIte, allS, Nat.reduceBEq, Nat.reduceAdd, Nat.reduceEqDiff, reduceIte, Int.reduceToNat, Int.reduceLE, Int.reduceLT, Nat.reduceLeDiff, Nat.reduceMul, Nat.reducePow, Nat.reduceLT, Int.reduceBEq, Int.reduceBNe, Int.reduceAdd, Int.reduceSub, Int.reduceMul, Int.reduceGT, Int.reduceGE, decS, Int.reduceNe, Int.reduceEq, hw2]
        refine acK_of (FCall.of (lent := false) (c1) (.refl rfl) rfl (by simp)) ?_
        simp -implicitDefEqProofs (maxSteps := 500000) (disch := first | decide | omega) only [↓preS, ↓reduceIte, allS, Nat.reduceBEq, Nat.reduceAdd, Nat.reduceEqDiff, reduceIte, Int.reduceToNat, Int.reduceLE, Int.reduceLT, Nat.reduceLeDiff, Nat.reduceMul, Nat.reducePow, Nat.reduceLT, Int.reduceBEq, Int.reduceBNe, Int.reduceAdd, Int.reduceSub, Int.reduceMul, Int.reduceGT, Int.reduceGE, decS, Int.reduceNe, Int.reduceEq, hw2]
        refine acK_of (FCall.of (lent := false) (c2) (.refl rfl) rfl (by simp)) ?_
        simp -implicitDefEqProofs (maxSteps := 500000) (disch := first | decide | omega) only [↓preS, ↓reduceIte, allS, Nat.reduceBEq, Nat.reduceAdd, Nat.reduceEqDiff, reduceIte, Int.reduceToNat, Int.reduceLE, Int.reduceLT, Nat.reduceLeDiff, Nat.reduceMul, Nat.reducePow, Nat.reduceLT, Int.reduceBEq, Int.reduceBNe, Int.reduceAdd, Int.reduceSub, Int.reduceMul, Int.reduceGT, Int.reduceGE, decS, Int.reduceNe, Int.reduceEq, hw2]
        refine acK_of (FCall.of (lent := false) (c3) (.refl rfl) rfl (by simp)) ?_
        simp -implicitDefEqProofs (maxSteps := 500000) (disch := first | decide | omega) only [↓preS, ↓reduceIte, allS, Nat.reduceBEq, Nat.reduceAdd, Nat.reduceEqDiff, reduceIte, Int.reduceToNat, Int.reduceLE, Int.reduceLT, Nat.reduceLeDiff, Nat.reduceMul, Nat.reducePow, Nat.reduceLT, Int.reduceBEq, Int.reduceBNe, Int.reduceAdd, Int.reduceSub, Int.reduceMul, Int.reduceGT, Int.reduceGE, decS, Int.reduceNe, Int.reduceEq]
        refine acK_of (FCall.of (lent := false) (c4) (.refl rfl) rfl (by simp)) ?_
        simp -implicitDefEqProofs (maxSteps := 500000) (disch := first | decide | omega) only [↓preS, ↓reduceIte, allS, Nat.reduceBEq, Nat.reduceAdd, Nat.reduceEqDiff, reduceIte, Int.reduceToNat, Int.reduceLE, Int.reduceLT, Nat.reduceLeDiff, Nat.reduceMul, Nat.reducePow, Nat.reduceLT, Int.reduceBEq, Int.reduceBNe, Int.reduceAdd, Int.reduceSub, Int.reduceMul, Int.reduceGT, Int.reduceGE, decS, Int.reduceNe, Int.reduceEq, ldo_cons1, part_int, List.getD_cons_zero, List.getD_cons_succ]
        first | refine And.intro (by decide) ?_ | skip)
      · refine mid3g ns hns labs pl ks nl r i j k left 0 hi hjk hks hk hnl (by omega) (by omega) hl1 ps us cz hcs _ _ fun y cs' hcs' hy1 hy2 hcu => ?_
        simp -implicitDefEqProofs (maxSteps := 500000) (disch := first | decide | omega) only [↓preS, ↓reduceIte, allS, Nat.reduceBEq, Nat.reduceAdd, Nat.reduceEqDiff, reduceIte, Int.reduceToNat, Int.reduceLE, Int.reduceLT, Nat.reduceLeDiff, Nat.reduceMul, Nat.reducePow, Nat.reduceLT, Int.reduceBEq, Int.reduceBNe, Int.reduceAdd, Int.reduceSub, Int.reduceMul, Int.reduceGT, Int.reduceGE, decS, Int.reduceNe, Int.reduceEq]
        refine ⟨(j + 1, left, cs'), ?_, ⟨by simp only; omega, by simp only; omega, by simp only; omega, hcs', (by simp only; rw [hcu]; exact (Sh.step (x := 0) (y := y) hjk hsh (by omega) (by omega) hy1 hy2 (by omega)).of (by omega))⟩, by simp only; omega⟩
        first | exact .inl rfl | (simp only [Int.sub_self, Int.sub_zero]; exact .inl rfl)
      · refine mid3g ns hns labs pl ks nl r i j k left h2 hi hjk hks hk hnl (by omega) (by omega) hl1 ps us cz hcs _ _ fun y cs' hcs' hy1 hy2 hcu => ?_
        simp -implicitDefEqProofs (maxSteps := 500000) (disch := first | decide | omega) only [↓preS, ↓reduceIte, allS, Nat.reduceBEq, Nat.reduceAdd, Nat.reduceEqDiff, reduceIte, Int.reduceToNat, Int.reduceLE, Int.reduceLT, Nat.reduceLeDiff, Nat.reduceMul, Nat.reducePow, Nat.reduceLT, Int.reduceBEq, Int.reduceBNe, Int.reduceAdd, Int.reduceSub, Int.reduceMul, Int.reduceGT, Int.reduceGE, decS, Int.reduceNe, Int.reduceEq]
        refine ⟨(j + 1, left - h2, cs'), ?_, ⟨by simp only; omega, by simp only; omega, by simp only; omega, hcs', (by simp only; rw [hcu]; exact (Sh.step (x := h2) (y := y) hjk hsh (by omega) (by omega) hy1 hy2 (by omega)).of (by omega))⟩, by simp only; omega⟩
        first | exact .inl rfl | (simp only [Int.sub_self, Int.sub_zero]; exact .inl rfl)
      · refine mid3g ns hns labs pl ks nl r i j k left left hi hjk hks hk hnl (by omega) (by omega) hl1 ps us cz hcs _ _ fun y cs' hcs' hy1 hy2 hcu => ?_
        simp -implicitDefEqProofs (maxSteps := 500000) (disch := first | decide | omega) only [↓preS, ↓reduceIte, allS, Nat.reduceBEq, Nat.reduceAdd, Nat.reduceEqDiff, reduceIte, Int.reduceToNat, Int.reduceLE, Int.reduceLT, Nat.reduceLeDiff, Nat.reduceMul, Nat.reducePow, Nat.reduceLT, Int.reduceBEq, Int.reduceBNe, Int.reduceAdd, Int.reduceSub, Int.reduceMul, Int.reduceGT, Int.reduceGE, decS, Int.reduceNe, Int.reduceEq]
        refine ⟨(j + 1, 0, cs'), ?_, ⟨by simp only; omega, by simp only; omega, by simp only; omega, hcs', (by simp only; rw [hcu]; exact (Sh.step (x := left) (y := y) hjk hsh (by omega) (by omega) hy1 hy2 (by omega)).of (by omega))⟩, by simp only; omega⟩
        first | exact .inl rfl | (simp only [Int.sub_self, Int.sub_zero]; exact .inl rfl)
      · refine mid3g ns hns labs pl ks nl r i j k left x1 hi hjk hks hk hnl (by omega) (by omega) hl1 ps us cz hcs _ _ fun y cs' hcs' hy1 hy2 hcu => ?_
        simp -implicitDefEqProofs (maxSteps := 500000) (disch := first | decide | omega) only [↓preS, ↓reduceIte, allS, Nat.reduceBEq, Nat.reduceAdd, Nat.reduceEqDiff, reduceIte, Int.reduceToNat, Int.reduceLE, Int.reduceLT, Nat.reduceLeDiff, Nat.reduceMul, Nat.reducePow, Nat.reduceLT, Int.reduceBEq, Int.reduceBNe, Int.reduceAdd, Int.reduceSub, Int.reduceMul, Int.reduceGT, Int.reduceGE, decS, Int.reduceNe, Int.reduceEq]
        refine ⟨(j + 1, left - x1, cs'), ?_, ⟨by simp only; omega, by simp only; omega, by simp only; omega, hcs', (by simp only; rw [hcu]; exact (Sh.step (x := x1) (y := y) hjk hsh (by omega) (by omega) hy1 hy2 (by omega)).of (by omega))⟩, by simp only; omega⟩
        first | exact .inl rfl | (simp only [Int.sub_self, Int.sub_zero]; exact .inl rfl)
    · simp -implicitDefEqProofs (maxSteps := 500000) (disch := first | decide | omega) only [↓preS, ↓reduceIte, allS, Nat.reduceBEq, Nat.reduceAdd, Nat.reduceEqDiff, reduceIte, Int.reduceToNat, Int.reduceLE, Int.reduceLT, Nat.reduceLeDiff, Nat.reduceMul, Nat.reducePow, Nat.reduceLT, Int.reduceBEq, Int.reduceBNe, Int.reduceAdd, Int.reduceSub, Int.reduceMul, Int.reduceGT, Int.reduceGE, decS, Int.reduceNe, Int.reduceEq]
      refine mid3 ns hns labs pl ks nl r i j k left left hi hjk hks hk hnl hl0 (by omega) hl1 ps us cz hcs _ fun y cs' hcs' hy1 hy2 hcu => ?_
      simp -implicitDefEqProofs (maxSteps := 500000) (disch := first | decide | omega) only [↓preS, ↓reduceIte, allS, Nat.reduceBEq, Nat.reduceAdd, Nat.reduceEqDiff, reduceIte, Int.reduceToNat, Int.reduceLE, Int.reduceLT, Nat.reduceLeDiff, Nat.reduceMul, Nat.reducePow, Nat.reduceLT, Int.reduceBEq, Int.reduceBNe, Int.reduceAdd, Int.reduceSub, Int.reduceMul, Int.reduceGT, Int.reduceGE, decS, Int.reduceNe, Int.reduceEq]
      refine ⟨(j + 1, 0, cs'), ?_, ⟨by simp only; omega, by simp only; omega, by simp only; omega, hcs', (by simp only; rw [hcu]; exact (Sh.step (x := left) (y := y) hjk hsh (by omega) (by omega) hy1 hy2 (by omega)).of (by omega))⟩, by simp only; omega⟩
      first | exact .inl rfl | (simp only [Int.sub_self, Int.sub_zero]; exact .inl rfl)
  · have : j = ks.length := by omega
    subst this
    simp -implicitDefEqProofs (maxSteps := 500000) (disch := first | decide | omega) only [↓preS, ↓reduceIte, allS, Nat.reduceBEq, Nat.reduceAdd, Nat.reduceEqDiff, reduceIte, Int.reduceToNat, Int.reduceLE, Int.reduceLT, Nat.reduceLeDiff, Nat.reduceMul, Nat.reducePow, Nat.reduceLT, Int.reduceBEq, Int.reduceBNe, Int.reduceAdd, Int.reduceSub, Int.reduceMul, Int.reduceGT, Int.reduceGE, decS, Int.reduceNe, Int.reduceEq]
    exact hQ left cz hcs hsh
set_option maxRecDepth 20000 in
set_option maxHeartbeats 16000000 in
theorem mid5 (ns : List Int) (hns : ns.length < 2 ^ 62) (labs pl ks : List (List UInt8)) (nl r : Nat) (i j k : Nat) (left x : Int) (hi : i ≤ 7) (hj : j < ks.length) (hks : ks.length ≤ 7) (hk : k < nl) (hnl : nl ≤ 2) (hx0 : 0 ≤ x) (hx1 : x ≤ left) (hl1 : left ≤ 10000) (ps : Nat → List UInt8) (us : Nat → Int) (cs : Nat → List Cap) (hcs : ∀ q, q < 5 → (cs q).length = nl) (Q : AE → St → Prop)
    (hQ : ∀ (y : Int) (cs' : Nat → List Cap), (∀ q, q < 5 → (cs' q).length = nl) → x ≤ y → y ≤ 10000 → cs' = updK ps 5 ks[j] k ⟨x, y⟩ cs → Q .normal ⟨[(1, .sl false 1 (ns.map I64)), (4, .ref 0 0 0), (6, .ref 1 0 0), (7, .sl false 1 (pl.map AV.str)), (11, .int .i64 (i : Int)), (12, .sl false 1 (ks.map AV.str)), (13, .int .i64 (k : Int)), (14, .int .i64 (left - x)), (15, .int .i64 (j : Int))], [.box [.nils, .nils], .box [.sl false 1 (labs.map AV.str), .own 2 3 0 5], .box ([.str (ps 0), .own 3 2 0 nl, .int .i64 (us 0), .str (ps 1), .own 4 2 0 nl, .int .i64 (us 1), .str (ps 2), .own 5 2 0 nl, .int .i64 (us 2), .str (ps 3), .own 6 2 0 nl, .int .i64 (us 3), .str (ps 4), .own 7 2 0 nl, .int .i64 (us 4)] ++ List.replicate r AV.any), .arr 2 ((cs' 0).map CAP), .arr 2 ((cs' 1).map CAP), .arr 2 ((cs' 2).map CAP), .arr 2 ((cs' 3).map CAP), .arr 2 ((cs' 4).map CAP)]⟩) :
    aw Tryd.prog cc10T141 Q ⟨[(1, .sl false 1 (ns.map I64)), (4, .ref 0 0 0), (6, .ref 1 0 0), (7, .sl false 1 (pl.map AV.str)), (11, .int .i64 (i : Int)), (12, .sl false 1 (ks.map AV.str)), (13, .int .i64 (k : Int)), (14, .int .i64 left), (15, .int .i64 (j : Int)), (16, .int .i64 x)], [.box [.nils, .nils], .box [.sl false 1 (labs.map AV.str), .own 2 3 0 5], .box ([.str (ps 0), .own 3 2 0 nl, .int .i64 (us 0), .str (ps 1), .own 4 2 0 nl, .int .i64 (us 1), .str (ps 2), .own 5 2 0 nl, .int .i64 (us 2), .str (ps 3), .own 6 2 0 nl, .int .i64 (us 3), .str (ps 4), .own 7 2 0 nl, .int .i64 (us 4)] ++ List.replicate r AV.any), .arr 2 ((cs 0).map CAP), .arr 2 ((cs 1).map CAP), .arr 2 ((cs 2).map CAP), .arr 2 ((cs 3).map CAP), .arr 2 ((cs 4).map CAP)]⟩ := by
  unfold cc10T141
  have c5 := pick_ok ns (j + k) hns
  rw [show (((j + k : Nat)) : Int) = (j : Int) + k by omega] at c5
  generalize pk ns (j + k) = v5 at c5
  have c8 := within_ok v5 (10000 - x + 1) (by omega) (by omega)
  have w8 := win_rng v5 (10000 - x + 1) (by omega)
  generalize win v5 (10000 - x + 1) = x8 at c8 w8
  have c6 := pick_ok ns (i + 2 * j) hns
  rw [show (((i + 2 * j : Nat)) : Int) = (i : Int) + 2 * j by omega] at c6
  generalize pk ns (i + 2 * j) = v6 at c6
  have c7 := within_ok v6 3 (by omega) (by omega)
  have w7 := win_rng v6 3 (by omega)
  generalize win v6 3 = x7 at c7 w7
  rcases (by omega : x7 = 0 ∨ x7 = 1 ∨ x7 = 2) with rfl | rfl | rfl <;> (
  simp -implicitDefEqProofs (maxSteps := 500000) (disch := first | decide | omega) only [↓preS, ↓reduceIte, allS, Nat.reduceBEq, Nat.reduceAdd, Nat.reduceEqDiff, reduceIte, Int.reduceToNat, Int.reduceLE, Int.reduceLT, Nat.reduceLeDiff, Nat.reduceMul, Nat.reducePow, Nat.reduceLT, Int.reduceBEq, Int.reduceBNe, Int.reduceAdd, Int.reduceSub, Int.reduceMul, Int.reduceGT, Int.reduceGE, decS, Int.reduceNe, Int.reduceEq]
  refine acK_of (FCall.of (lent := false) (c5) (.refl rfl) rfl (by simp)) ?_
  simp -implicitDefEqProofs (maxSteps := 500000) (disch := first | decide | omega) only [↓preS, ↓reduceIte, allS, Nat.reduceBEq, Nat.reduceAdd, Nat.reduceEqDiff, reduceIte, Int.reduceToNat, Int.reduceLE, Int.reduceLT, Nat.reduceLeDiff, Nat.reduceMul, Nat.reducePow, Nat.reduceLT, Int.reduceBEq, Int.reduceBNe, Int.reduceAdd, Int.reduceSub, Int.reduceMul, Int.reduceGT, Int.reduceGE, decS, Int.reduceNe, Int.reduceEq]
  refine acK_of (FCall.of (lent := false) (c8) (.refl rfl) rfl (by simp)) ?_
  simp -implicitDefEqProofs (maxSteps := 500000) (disch := first | decide | omega) only [↓preS, ↓reduceIte, allS, Nat.reduceBEq, Nat.reduceAdd, Nat.reduceEqDiff, reduceIte, Int.reduceToNat, Int.reduceLE, Int.reduceLT, Nat.reduceLeDiff, Nat.reduceMul, Nat.reducePow, Nat.reduceLT, Int.reduceBEq, Int.reduceBNe, Int.reduceAdd, Int.reduceSub, Int.reduceMul, Int.reduceGT, Int.reduceGE, decS, Int.reduceNe, Int.reduceEq]
  refine acK_of (FCall.of (lent := false) (c6) (.refl rfl) rfl (by simp)) ?_
  simp -implicitDefEqProofs (maxSteps := 500000) (disch := first | decide | omega) only [↓preS, ↓reduceIte, allS, Nat.reduceBEq, Nat.reduceAdd, Nat.reduceEqDiff, reduceIte, Int.reduceToNat, Int.reduceLE, Int.reduceLT, Nat.reduceLeDiff, Nat.reduceMul, Nat.reducePow, Nat.reduceLT, Int.reduceBEq, Int.reduceBNe, Int.reduceAdd, Int.reduceSub, Int.reduceMul, Int.reduceGT, Int.reduceGE, decS, Int.reduceNe, Int.reduceEq]
  refine acK_of (FCall.of (lent := false) (c7) (.refl rfl) rfl (by simp)) ?_
  simp -implicitDefEqProofs (maxSteps := 500000) (disch := first | decide | omega) only [↓preS, ↓reduceIte, allS, Nat.reduceBEq, Nat.reduceAdd, Nat.reduceEqDiff, reduceIte, Int.reduceToNat, Int.reduceLE, Int.reduceLT, Nat.reduceLeDiff, Nat.reduceMul, Nat.reducePow, Nat.reduceLT, Int.reduceBEq, Int.reduceBNe, Int.reduceAdd, Int.reduceSub, Int.reduceMul, Int.reduceGT, Int.reduceGE, decS, Int.reduceNe, Int.reduceEq, ldo_cons1, part_int, List.getD_cons_zero, List.getD_cons_succ]
  first | refine And.intro (by decide) ?_ | skip
  unfold cc10L0
  simp -implicitDefEqProofs (maxSteps := 500000) (disch := first | decide | omega) only [↓preS, ↓reduceIte, allS, Nat.reduceBEq, Nat.reduceAdd, Nat.reduceEqDiff, reduceIte, Int.reduceToNat, Int.reduceLE, Int.reduceLT, Nat.reduceLeDiff, Nat.reduceMul, Nat.reducePow, Nat.reduceLT, Int.reduceBEq, Int.reduceBNe, Int.reduceAdd, Int.reduceSub, Int.reduceMul, Int.reduceGT, Int.reduceGE, decS, Int.reduceNe, Int.reduceEq]
  refine mloop5 ns labs pl ks nl r i (left - x) x _ j k hj hk ps us cs hcs _ (fun cs' hcs' hcu => ?_) _ (by (refine Sub.ofL [some 0, some 1, some 2, some 3, some 4, some 5, some 6, some 7] rfl (by simp) (by decide) (by simp [partL, AO.ro, AV.ro, AV.roL, names, AO.empty, SB, U8, SI, I64, STR] <;> (try and_intros) <;> rfl) (by simp [AO.bo, AV.bo, AV.boL, names] <;> (try and_intros) <;> rfl) ?_ <;> (try simp only [List.map_cons, List.map_nil, regsL, AV.ro, AV.roL, AV.bo, AV.boL, names, get_here, get_there, Nat.reduceBEq, List.getD_cons_zero, List.getD_cons_succ, List.getD_nil, and_true, true_and, Nat.reduceLT, List.length_cons, List.length_nil, Nat.reduceAdd, decide_true, Option.isSome_some, Bool.true_or, Bool.and_self, Option.isSome_none, Bool.false_or, beq_self_eq_true, wk0_self, wk0_nils]) <;> (try and_intros) <;> (first | done | rfl | exact .inl rfl | exact .inr ⟨rfl, _, _, rfl⟩ | (simp; done) | (simp; omega) | (refine .inl ?_; simp; done) | (refine .inl ?_; simp; omega))))
  simp -implicitDefEqProofs (maxSteps := 500000) (disch := first | decide | omega) only [↓preS, ↓reduceIte, allS, Nat.reduceBEq, Nat.reduceAdd, Nat.reduceEqDiff, reduceIte, Int.reduceToNat, Int.reduceLE, Int.reduceLT, Nat.reduceLeDiff, Nat.reduceMul, Nat.reducePow, Nat.reduceLT, Int.reduceBEq, Int.reduceBNe, Int.reduceAdd, Int.reduceSub, Int.reduceMul, Int.reduceGT, Int.reduceGE, decS, Int.reduceNe, Int.reduceEq]
  exact hQ _ cs' hcs' (by omega) (by omega) hcu)
set_option maxRecDepth 20000 in
set_option maxHeartbeats 16000000 in
theorem mid5g (ns : List Int) (hns : ns.length < 2 ^ 62) (labs pl ks : List (List UInt8)) (nl r : Nat) (i j k : Nat) (left x : Int) (hi : i ≤ 7) (hj : j < ks.length) (hks : ks.length ≤ 7) (hk : k < nl) (hnl : nl ≤ 2) (hx0 : 0 ≤ x) (hx1 : x ≤ left) (hl1 : left ≤ 10000) (ps : Nat → List UInt8) (us : Nat → Int) (cs : Nat → List Cap) (hcs : ∀ q, q < 5 → (cs q).length = nl) (gl : List AV) (Q : AE → St → Prop)
    (hQ : ∀ (y : Int) (cs' : Nat → List Cap), (∀ q, q < 5 → (cs' q).length = nl) → x ≤ y → y ≤ 10000 → cs' = updK ps 5 ks[j] k ⟨x, y⟩ cs → Q .normal ⟨[(1, .sl false 1 (ns.map I64)), (4, .ref 0 0 0), (6, .ref 1 0 0), (7, .sl false 1 (pl.map AV.str)), (11, .int .i64 (i : Int)), (12, .sl false 1 (ks.map AV.str)), (13, .int .i64 (k : Int)), (14, .int .i64 (left - x)), (15, .int .i64 (j : Int))], [.box [.nils, .nils], .box [.sl false 1 (labs.map AV.str), .own 2 3 0 5], .box ([.str (ps 0), .own 3 2 0 nl, .int .i64 (us 0), .str (ps 1), .own 4 2 0 nl, .int .i64 (us 1), .str (ps 2), .own 5 2 0 nl, .int .i64 (us 2), .str (ps 3), .own 6 2 0 nl, .int .i64 (us 3), .str (ps 4), .own 7 2 0 nl, .int .i64 (us 4)] ++ List.replicate r AV.any), .arr 2 ((cs' 0).map CAP), .arr 2 ((cs' 1).map CAP), .arr 2 ((cs' 2).map CAP), .arr 2 ((cs' 3).map CAP), .arr 2 ((cs' 4).map CAP)]⟩) :
    aw Tryd.prog cc10T141 Q ⟨[(1, .sl false 1 (ns.map I64)), (4, .ref 0 0 0), (6, .ref 1 0 0), (7, .sl false 1 (pl.map AV.str)), (11, .int .i64 (i : Int)), (12, .sl false 1 (ks.map AV.str)), (13, .int .i64 (k : Int)), (14, .int .i64 left), (15, .int .i64 (j : Int)), (16, .int .i64 x)], [.box [.nils, .nils], .box [.sl false 1 (labs.map AV.str), .own 2 3 0 5], .box ([.str (ps 0), .own 3 2 0 nl, .int .i64 (us 0), .str (ps 1), .own 4 2 0 nl, .int .i64 (us 1), .str (ps 2), .own 5 2 0 nl, .int .i64 (us 2), .str (ps 3), .own 6 2 0 nl, .int .i64 (us 3), .str (ps 4), .own 7 2 0 nl, .int .i64 (us 4)] ++ List.replicate r AV.any), .arr 2 ((cs 0).map CAP), .arr 2 ((cs 1).map CAP), .arr 2 ((cs 2).map CAP), .arr 2 ((cs 3).map CAP), .arr 2 ((cs 4).map CAP), .arr 1 gl]⟩ := by
  unfold cc10T141
  have c5 := pick_ok ns (j + k) hns
  rw [show (((j + k : Nat)) : Int) = (j : Int) + k by omega] at c5
  generalize pk ns (j + k) = v5 at c5
  have c8 := within_ok v5 (10000 - x + 1) (by omega) (by omega)
  have w8 := win_rng v5 (10000 - x + 1) (by omega)
  generalize win v5 (10000 - x + 1) = x8 at c8 w8
  have c6 := pick_ok ns (i + 2 * j) hns
  rw [show (((i + 2 * j : Nat)) : Int) = (i : Int) + 2 * j by omega] at c6
  generalize pk ns (i + 2 * j) = v6 at c6
  have c7 := within_ok v6 3 (by omega) (by omega)
  have w7 := win_rng v6 3 (by omega)
  generalize win v6 3 = x7 at c7 w7
  rcases (by omega : x7 = 0 ∨ x7 = 1 ∨ x7 = 2) with rfl | rfl | rfl <;> (
  simp -implicitDefEqProofs (maxSteps := 500000) (disch := first | decide | omega) only [↓preS, ↓reduceIte, allS, Nat.reduceBEq, Nat.reduceAdd, Nat.reduceEqDiff, reduceIte, Int.reduceToNat, Int.reduceLE, Int.reduceLT, Nat.reduceLeDiff, Nat.reduceMul, Nat.reducePow, Nat.reduceLT, Int.reduceBEq, Int.reduceBNe, Int.reduceAdd, Int.reduceSub, Int.reduceMul, Int.reduceGT, Int.reduceGE, decS, Int.reduceNe, Int.reduceEq]
  refine acK_of (FCall.of (lent := false) (c5) (.refl rfl) rfl (by simp)) ?_
  simp -implicitDefEqProofs (maxSteps := 500000) (disch := first | decide | omega) only [↓preS, ↓reduceIte, allS, Nat.reduceBEq, Nat.reduceAdd, Nat.reduceEqDiff, reduceIte, Int.reduceToNat, Int.reduceLE, Int.reduceLT, Nat.reduceLeDiff, Nat.reduceMul, Nat.reducePow, Nat.reduceLT, Int.reduceBEq, Int.reduceBNe, Int.reduceAdd, Int.reduceSub, Int.reduceMul, Int.reduceGT, Int.reduceGE, decS, Int.reduceNe, Int.reduceEq]
  refine acK_of (FCall.of (lent := false) (c8) (.refl rfl) rfl (by simp)) ?_
  simp -implicitDefEqProofs (maxSteps := 500000) (disch := first | decide | omega) only [↓preS, ↓reduceIte, allS, Nat.reduceBEq, Nat.reduceAdd, Nat.reduceEqDiff, reduceIte, Int.reduceToNat, Int.reduceLE, Int.reduceLT, Nat.reduceLeDiff, Nat.reduceMul, Nat.reducePow, Nat.reduceLT, Int.reduceBEq, Int.reduceBNe, Int.reduceAdd, Int.reduceSub, Int.reduceMul, Int.reduceGT, Int.reduceGE, decS, Int.reduceNe, Int.reduceEq]
  refine acK_of (FCall.of (lent := false) (c6) (.refl rfl) rfl (by simp)) ?_
  simp -implicitDefEqProofs (maxSteps := 500000) (disch := first | decide | omega) only [↓preS, ↓reduceIte, allS, Nat.reduceBEq, Nat.reduceAdd, Nat.reduceEqDiff, reduceIte, Int.reduceToNat, Int.reduceLE, Int.reduceLT, Nat.reduceLeDiff, Nat.reduceMul, Nat.reducePow, Nat.reduceLT, Int.reduceBEq, Int.reduceBNe, Int.reduceAdd, Int.reduceSub, Int.reduceMul, Int.reduceGT, Int.reduceGE, decS, Int.reduceNe, Int.reduceEq]
  refine acK_of (FCall.of (lent := false) (c7) (.refl rfl) rfl (by simp)) ?_
  simp -implicitDefEqProofs (maxSteps := 500000) (disch := first | decide | omega) only [↓preS, ↓reduceIte, allS, Nat.reduceBEq, Nat.reduceAdd, Nat.reduceEqDiff, reduceIte, Int.reduceToNat, Int.reduceLE, Int.reduceLT, Nat.reduceLeDiff, Nat.reduceMul, Nat.reducePow, Nat.reduceLT, Int.reduceBEq, Int.reduceBNe, Int.reduceAdd, Int.reduceSub, Int.reduceMul, Int.reduceGT, Int.reduceGE, decS, Int.reduceNe, Int.reduceEq, ldo_cons1, part_int, List.getD_cons_zero, List.getD_cons_succ]
  first | refine And.intro (by decide) ?_ | skip
  unfold cc10L0
  simp -implicitDefEqProofs (maxSteps := 500000) (disch := first | decide | omega) only [↓preS, ↓reduceIte, allS, Nat.reduceBEq, Nat.reduceAdd, Nat.reduceEqDiff, reduceIte, Int.reduceToNat, Int.reduceLE, Int.reduceLT, Nat.reduceLeDiff, Nat.reduceMul, Nat.reducePow, Nat.reduceLT, Int.reduceBEq, Int.reduceBNe, Int.reduceAdd, Int.reduceSub, Int.reduceMul, Int.reduceGT, Int.reduceGE, decS, Int.reduceNe, Int.reduceEq]
  refine mloop5 ns labs pl ks nl r i (left - x) x _ j k hj hk ps us cs hcs _ (fun cs' hcs' hcu => ?_) _ (by (refine Sub.ofL [some 0, some 1, some 2, some 3, some 4, some 5, some 6, some 7] rfl (by simp) (by decide) (by simp [partL, AO.ro, AV.ro, AV.roL, names, AO.empty, SB, U8, SI, I64, STR] <;> (try and_intros) <;> rfl) (by simp [AO.bo, AV.bo, AV.boL, names] <;> (try and_intros) <;> rfl) ?_ <;> (try simp only [List.map_cons, List.map_nil, regsL, AV.ro, AV.roL, AV.bo, AV.boL, names, get_here, get_there, Nat.reduceBEq, List.getD_cons_zero, List.getD_cons_succ, List.getD_nil, and_true, true_and, Nat.reduceLT, List.length_cons, List.length_nil, Nat.reduceAdd, decide_true, Option.isSome_some, Bool.true_or, Bool.and_self, Option.isSome_none, Bool.false_or, beq_self_eq_true, wk0_self, wk0_nils]) <;> (try and_intros) <;> (first | done | rfl | exact .inl rfl | exact .inr ⟨rfl, _, _, rfl⟩ | (simp; done) | (simp; omega) | (refine .inl ?_; simp; done) | (refine .inl ?_; simp; omega))))
  simp -implicitDefEqProofs (maxSteps := 500000) (disch := first | decide | omega) only [↓preS, ↓reduceIte, allS, Nat.reduceBEq, Nat.reduceAdd, Nat.reduceEqDiff, reduceIte, Int.reduceToNat, Int.reduceLE, Int.reduceLT, Nat.reduceLeDiff, Nat.reduceMul, Nat.reducePow, Nat.reduceLT, Int.reduceBEq, Int.reduceBNe, Int.reduceAdd, Int.reduceSub, Int.reduceMul, Int.reduceGT, Int.reduceGE, decS, Int.reduceNe, Int.reduceEq]
  exact hQ _ cs' hcs' (by omega) (by omega) hcu)
set_option maxRecDepth 20000 in
set_option maxHeartbeats 16000000 in
theorem jloop5 (ns : List Int) (hns : ns.length < 2 ^ 62) (labs pl ks : List (List UInt8)) (hks : ks.length ≤ 7) (nl r : Nat) (i k : Nat) (hi : i ≤ 7) (hk : k < nl) (hnl : nl ≤ 2) (ps : Nat → List UInt8) (us : Nat → Int) (cs : Nat → List Cap) (hcs : ∀ q, q < 5 → (cs q).length = nl) (Q : AE → St → Prop)
    (hQ : ∀ lf, ∀ cs' : Nat → List Cap, (∀ q, q < 5 → (cs' q).length = nl) → Sh ps 5 ks k cs ks.length lf cs' → Q (.exit 8) ⟨[(1, .sl false 1 (ns.map I64)), (4, .ref 0 0 0), (6, .ref 1 0 0), (7, .sl false 1 (pl.map AV.str)), (11, .int .i64 (i : Int)), (12, .sl false 1 (ks.map AV.str)), (13, .int .i64 (k : Int)), (14, .int .i64 lf), (15, .int .i64 (ks.length : Int)), (108, .bool false)], [.box [.nils, .nils], .box [.sl false 1 (labs.map AV.str), .own 2 3 0 5], .box ([.str (ps 0), .own 3 2 0 nl, .int .i64 (us 0), .str (ps 1), .own 4 2 0 nl, .int .i64 (us 1), .str (ps 2), .own 5 2 0 nl, .int .i64 (us 2), .str (ps 3), .own 6 2 0 nl, .int .i64 (us 3), .str (ps 4), .own 7 2 0 nl, .int .i64 (us 4)] ++ List.replicate r AV.any), .arr 2 ((cs' 0).map CAP), .arr 2 ((cs' 1).map CAP), .arr 2 ((cs' 2).map CAP), .arr 2 ((cs' 3).map CAP), .arr 2 ((cs' 4).map CAP)]⟩) (s0 : St) (hs0 : Sub 0 (keepK (some [1, 4, 6, 7, 11, 12, 13, 14, 15]) s0) ⟨[(1, .sl false 1 (ns.map I64)), (4, .ref 0 0 0), (6, .ref 1 0 0), (7, .sl false 1 (pl.map AV.str)), (11, .int .i64 (i : Int)), (12, .sl false 1 (ks.map AV.str)), (13, .int .i64 (k : Int)), (14, .int .i64 10000), (15, .int .i64 (((0 : Nat) : Int) : Int))], [.box [.nils, .nils], .box [.sl false 1 (labs.map AV.str), .own 2 3 0 5], .box ([.str (ps 0), .own 3 2 0 nl, .int .i64 (us 0), .str (ps 1), .own 4 2 0 nl, .int .i64 (us 1), .str (ps 2), .own 5 2 0 nl, .int .i64 (us 2), .str (ps 3), .own 6 2 0 nl, .int .i64 (us 3), .str (ps 4), .own 7 2 0 nl, .int .i64 (us 4)] ++ List.replicate r AV.any), .arr 2 ((cs 0).map CAP), .arr 2 ((cs 1).map CAP), .arr 2 ((cs 2).map CAP), .arr 2 ((cs 3).map CAP), .arr 2 ((cs 4).map CAP)]⟩) :
    aw Tryd.prog (.loop 0 (some [1, 4, 6, 7, 11, 12, 13, 14, 15]) cc10l1) Q s0 := by
  refine aw_loopS (σ := Nat × Int × (Nat → List Cap)) (fun q => ⟨[(1, .sl false 1 (ns.map I64)), (4, .ref 0 0 0), (6, .ref 1 0 0), (7, .sl false 1 (pl.map AV.str)), (11, .int .i64 (i : Int)), (12, .sl false 1 (ks.map AV.str)), (13, .int .i64 (k : Int)), (14, .int .i64 q.2.1), (15, .int .i64 (q.1 : Int))], [.box [.nils, .nils], .box [.sl false 1 (labs.map AV.str), .own 2 3 0 5], .box ([.str (ps 0), .own 3 2 0 nl, .int .i64 (us 0), .str (ps 1), .own 4 2 0 nl, .int .i64 (us 1), .str (ps 2), .own 5 2 0 nl, .int .i64 (us 2), .str (ps 3), .own 6 2 0 nl, .int .i64 (us 3), .str (ps 4), .own 7 2 0 nl, .int .i64 (us 4)] ++ List.replicate r AV.any), .arr 2 ((q.2.2 0).map CAP), .arr 2 ((q.2.2 1).map CAP), .arr 2 ((q.2.2 2).map CAP), .arr 2 ((q.2.2 3).map CAP), .arr 2 ((q.2.2 4).map CAP)]⟩) (fun q => q.1 ≤ ks.length ∧ 0 ≤ q.2.1 ∧ q.2.1 ≤ 10000 ∧ (∀ w, w < 5 → (q.2.2 w).length = nl) ∧ Sh ps 5 ks k cs q.1 q.2.1 q.2.2) (fun q => ks.length - q.1) (0, 10000, cs) hs0 ⟨by simp, by simp, by simp, hcs, .zero⟩ ?_
  rintro ⟨j, left, cz⟩ ⟨hj, hl0, hl1, hcs, hsh⟩
  simp only at hj hl0 hl1 hcs hsh ⊢
  unfold cc10l1
  by_cases hjk : j < ks.length
  · have c1 := pick_ok ns (i + j + k) hns
    rw [show (((i + j + k : Nat)) : Int) = (i : Int) + j + k by omega] at c1
    generalize pk ns (i + j + k) = v1 at c1
    have c2 := within_ok v1 (left + 1) (by omega) (by omega)
    have w2 := win_rng v1 (left + 1) (by omega)
    generalize win v1 (left + 1) = x1 at c2 w2
    have hij : i * j ≤ 7 * 7 := Nat.mul_le_mul hi (by omega)
    have c3 := pick_ok ns (i * j + k) hns
    rw [show (((i * j + k : Nat)) : Int) = (i : Int) * j + k by rw [Int.natCast_add, Int.natCast_mul]] at c3
    generalize pk ns (i * j + k) = v3 at c3
    have c4 := within_ok v3 4 (by omega) (by omega)
    have w4 := win_rng v3 4 (by omega)
    generalize win v3 4 = x4 at c4 w4
    have hij2 : 0 ≤ (i : Int) * j ∧ (i : Int) * j ≤ 49 := by
      have : ((i * j : Nat) : Int) = (i : Int) * j := Int.natCast_mul i j
      omega
    obtain ⟨h2, hw2, h20, h21⟩ := half_ok left hl0 hl1
    by_cases hlast : (j : Int) < (ks.length : Int) - 1
    · rcases (by omega : x4 = 0 ∨ x4 = 1 ∨ x4 = 2 ∨ x4 = 3) with rfl | rfl | rfl | rfl
      all_goals (
        simp -implicitDefEqProofs (maxSteps := 500000) (disch := first | decide | omega) only [↓preS, ↓reduceIte, allS, Nat.reduceBEq, Nat.reduceAdd, Nat.reduceEqDiff, reduceIte, Int.reduceToNat, Int.reduceLE, Int.reduceLT, Nat.reduceLeDiff, Nat.reduceMul, Nat.reducePow, Nat.reduceLT, Int.reduceBEq, Int.reduceBNe, Int.reduceAdd, Int.reduceSub, Int.reduceMul, Int.reduceGT, Int.reduceGE, decS, Int.reduceNe, Int.reduceEq, hw2]
        refine acK_of (FCall.of (lent := false) (c1) (.refl rfl) rfl (by simp)) ?_
        simp -implicitDefEqProofs (maxSteps := 500000) (disch := first | decide | omega) only [↓preS, ↓reduceIte, allS, Nat.reduceBEq, Nat.reduceAdd, Nat.reduceEqDiff, reduceIte, Int.reduceToNat, Int.reduceLE, Int.reduceLT, Nat.reduceLeDiff, Nat.reduceMul, Nat.reducePow, Nat.reduceLT, Int.reduceBEq, Int.reduceBNe, Int.reduceAdd, Int.reduceSub, Int.reduceMul, Int.reduceGT, Int.reduceGE, decS, Int.reduceNe, Int.reduceEq, hw2]
        refine acK_of (FCall.of (lent := false) (c2) (.refl rfl) rfl (by simp)) ?_
        simp -implicitDefEqProofs (maxSteps := 500000) (disch := first | decide | omega) only [↓preS, ↓reduceIte, allS, Nat.reduceBEq, Nat.reduceAdd, Nat.reduceEqDiff, reduceIte, Int.reduceToNat, Int.reduceLE, Int.reduceLT, Nat.reduceLeDiff, Nat.reduceMul, Nat.reducePow, Nat.reduceLT, Int.reduceBEq, Int.reduceBNe, Int.reduceAdd, Int.reduceSub, Int.reduceMul, Int.reduceGT, Int.reduceGE, decS, Int.reduceNe, Int.reduceEq, hw2]
        refine acK_of (FCall.of (lent := false) (c3) (.refl rfl) rfl (by simp)) ?_
        simp -implicitDefEqProofs (maxSteps := 500000) (disch := first | decide | omega) only [↓preS, ↓reduceIte, allS, Nat.reduceBEq, Nat.reduceAdd, Nat.reduceEqDiff, reduceIte, Int.reduceToNat, Int.reduceLE, Int.reduceLT, Nat.reduceLeDiff, Nat.reduceMul, Nat.reducePow, Nat.reduceLT, Int.reduceBEq, Int.reduceBNe, Int.reduceAdd, Int.reduceSub, Int.reduceMul, Int.reduceGT, Int.reduceGE, decS, Int.reduceNe, Int.reduceEq]
        refine acK_of (FCall.of (lent := false) (c4) (.refl rfl) rfl (by simp)) ?_
        simp -implicitDefEqProofs (maxSteps := 500000) (disch := first | decide | omega) only [↓preS, ↓reduceIte, allS, Nat.reduceBEq, Nat.reduceAdd, Nat.reduceEqDiff, reduceIte, Int.reduceToNat, Int.reduceLE, Int.reduceLT, Nat.reduceLeDiff, Nat.reduceMul, Nat.reducePow, Nat.reduceLT, Int.reduceBEq, Int.reduceBNe, Int.reduceAdd, Int.reduceSub, Int.reduceMul, Int.reduceGT, Int.reduceGE, decS, Int.reduceNe, Int.reduceEq, ldo_cons1, part_int, List.getD_cons_zero, List.getD_cons_succ]
        first | refine And.intro (by decide) ?_ | skip)
      · refine mid5g ns hns labs pl ks nl r i j k left 0 hi hjk hks hk hnl (by omega) (by omega) hl1 ps us cz hcs _ _ fun y cs' hcs' hy1 hy2 hcu => ?_
        simp -implicitDefEqProofs (maxSteps := 500000) (disch := first | decide | omega) only [↓preS, ↓reduceIte, allS, Nat.reduceBEq, Nat.reduceAdd, Nat.reduceEqDiff, reduceIte, Int.reduceToNat, Int.reduceLE, Int.reduceLT, Nat.reduceLeDiff, Nat.reduceMul, Nat.reducePow, Nat.reduceLT, Int.reduceBEq, Int.reduceBNe, Int.reduceAdd, Int.reduceSub, Int.reduceMul, Int.reduceGT, Int.reduceGE, decS, Int.reduceNe, Int.reduceEq]
        refine ⟨(j + 1, left, cs'), ?_, ⟨by simp only; omega, by simp only; omega, by simp only; omega, hcs', (by simp only; rw [hcu]; exact (Sh.step (x := 0) (y := y) hjk hsh (by omega) (by omega) hy1 hy2 (by omega)).of (by omega))⟩, by simp only; omega⟩
        first | exact .inl rfl | (simp only [Int.sub_self, Int.sub_zero]; exact .inl rfl)
      · refine mid5g ns hns labs pl ks nl r i j k left h2 hi hjk hks hk hnl (by omega) (by omega) hl1 ps us cz hcs _ _ fun y cs' hcs' hy1 hy2 hcu => ?_
        simp -implicitDefEqProofs (maxSteps := 500000) (disch := first | decide | omega) only [↓preS, ↓reduceIte, allS, Nat.reduceBEq, Nat.reduceAdd, Nat.reduceEqDiff, reduceIte, Int.reduceToNat, Int.reduceLE, Int.reduceLT, Nat.reduceLeDiff, Nat.reduceMul, Nat.reducePow, Nat.reduceLT, Int.reduceBEq, Int.reduceBNe, Int.reduceAdd, Int.reduceSub, Int.reduceMul, Int.reduceGT, Int.reduceGE, decS, Int.reduceNe, Int.reduceEq]
        refine ⟨(j + 1, left - h2, cs'), ?_, ⟨by simp only; omega, by simp only; omega, by simp only; omega, hcs', (by simp only; rw [hcu]; exact (Sh.step (x := h2) (y := y) hjk hsh (by omega) (by omega) hy1 hy2 (by omega)).of (by omega))⟩, by simp only; omega⟩
        first | exact .inl rfl | (simp only [Int.sub_self, Int.sub_zero]; exact .inl rfl)
      · refine mid5g ns hns labs pl ks nl r i j k left left hi hjk hks hk hnl (by omega) (by omega) hl1 ps us cz hcs _ _ fun y cs' hcs' hy1 hy2 hcu => ?_
        simp -implicitDefEqProofs (maxSteps := 500000) (disch := first | decide | omega) only [↓preS, ↓reduceIte, allS, Nat.reduceBEq, Nat.reduceAdd, Nat.reduceEqDiff, reduceIte, Int.reduceToNat, Int.reduceLE, Int.reduceLT, Nat.reduceLeDiff, Nat.reduceMul, Nat.reducePow, Nat.reduceLT, Int.reduceBEq, Int.reduceBNe, Int.reduceAdd, Int.reduceSub, Int.reduceMul, Int.reduceGT, Int.reduceGE, decS, Int.reduceNe, Int.reduceEq]
        refine ⟨(j + 1, 0, cs'), ?_, ⟨by simp only; omega, by simp only; omega, by simp only; omega, hcs', (by simp only; rw [hcu]; exact (Sh.step (x := left) (y := y) hjk hsh (by omega) (by omega) hy1 hy2 (by omega)).of (by omega))⟩, by simp only; omega⟩
        first | exact .inl rfl | (simp only [Int.sub_self, Int.sub_zero]; exact .inl rfl)
      · refine mid5g ns hns labs pl ks nl r i j k left x1 hi hjk hks hk hnl (by omega) (by omega) hl1 ps us cz hcs _ _ fun y cs' hcs' hy1 hy2 hcu => ?_
        simp -implicitDefEqProofs (maxSteps := 500000) (disch := first | decide | omega) only [↓preS, ↓reduceIte, allS, Nat.reduceBEq, Nat.reduceAdd, Nat.reduceEqDiff, reduceIte, Int.reduceToNat, Int.reduceLE, Int.reduceLT, Nat.reduceLeDiff, Nat.reduceMul, Nat.reducePow, Nat.reduceLT, Int.reduceBEq, Int.reduceBNe, Int.reduceAdd, Int.reduceSub, Int.reduceMul, Int.reduceGT, Int.reduceGE, decS, Int.reduceNe, Int.reduceEq]
        refine ⟨(j + 1, left - x1, cs'), ?_, ⟨by simp only; omega, by simp only; omega, by simp only; omega, hcs', (by simp only; rw [hcu]; exact (Sh.step (x := x1) (y := y) hjk hsh (by omega) (by omega) hy1 hy2 (by omega)).of (by omega))⟩, by simp only; omega⟩
        first | exact .inl rfl | (simp only [Int.sub_self, Int.sub_zero]; exact .inl rfl)
    · simp -implicitDefEqProofs (maxSteps := 500000) (disch := first | decide | omega) only [↓preS, ↓reduceIte, allS, Nat.reduceBEq, Nat.reduceAdd, Nat.reduceEqDiff, reduceIte, Int.reduceToNat, Int.reduceLE, Int.reduceLT, Nat.reduceLeDiff, Nat.reduceMul, Nat.reducePow, Nat.reduceLT, Int.reduceBEq, Int.reduceBNe, Int.reduceAdd, Int.reduceSub, Int.reduceMul, Int.reduceGT, Int.reduceGE, decS, Int.reduceNe, Int.reduceEq]
      refine mid5 ns hns labs pl ks nl r i j k left left hi hjk hks hk hnl hl0 (by omega) hl1 ps us cz hcs _ fun y cs' hcs' hy1 hy2 hcu => ?_
      simp -implicitDefEqProofs (maxSteps := 500000) (disch := first | decide | omega) only [↓preS, ↓reduceIte, allS, Nat.reduceBEq, Nat.reduceAdd, Nat.reduceEqDiff, reduceIte, Int.reduceToNat, Int.reduceLE, Int.reduceLT, Nat.reduceLeDiff, Nat.reduceMul, Nat.reducePow, Nat.reduceLT, Int.reduceBEq, Int.reduceBNe, Int.reduceAdd, Int.reduceSub, Int.reduceMul, Int.reduceGT, Int.reduceGE, decS, Int.reduceNe, Int.reduceEq]
      refine ⟨(j + 1, 0, cs'), ?_, ⟨by simp only; omega, by simp only; omega, by simp only; omega, hcs', (by simp only; rw [hcu]; exact (Sh.step (x := left) (y := y) hjk hsh (by omega) (by omega) hy1 hy2 (by omega)).of (by omega))⟩, by simp only; omega⟩
      first | exact .inl rfl | (simp only [Int.sub_self, Int.sub_zero]; exact .inl rfl)
  · have : j = ks.length := by omega
    subst this
    simp -implicitDefEqProofs (maxSteps := 500000) (disch := first | decide | omega) only [↓preS, ↓reduceIte, allS, Nat.reduceBEq, Nat.reduceAdd, Nat.reduceEqDiff, reduceIte, Int.reduceToNat, Int.reduceLE, Int.reduceLT, Nat.reduceLeDiff, Nat.reduceMul, Nat.reducePow, Nat.reduceLT, Int.reduceBEq, Int.reduceBNe, Int.reduceAdd, Int.reduceSub, Int.reduceMul, Int.reduceGT, Int.reduceGE, decS, Int.reduceNe, Int.reduceEq]
    exact hQ left cz hcs hsh
set_option maxRecDepth 20000 in
set_option maxHeartbeats 16000000 in
theorem mid7 (ns : List Int) (hns : ns.length < 2 ^ 62) (labs pl ks : List (List UInt8)) (nl r : Nat) (i j k : Nat) (left x : Int) (hi : i ≤ 7) (hj : j < ks.length) (hks : ks.length ≤ 7) (hk : k < nl) (hnl : nl ≤ 2) (hx0 : 0 ≤ x) (hx1 : x ≤ left) (hl1 : left ≤ 10000) (ps : Nat → List UInt8) (us : Nat → Int) (cs : Nat → List Cap) (hcs : ∀ q, q < 7 → (cs q).length = nl) (Q : AE → St → Prop)
    (hQ : ∀ (y : Int) (cs' : Nat → List Cap), (∀ q, q < 7 → (cs' q).length = nl) → x ≤ y → y ≤ 10000 → cs' = updK ps 7 ks[j] k ⟨x, y⟩ cs → Q .normal ⟨[(1, .sl false 1 (ns.map I64)), (4, .ref 0 0 0), (6, .ref 1 0 0), (7, .sl false 1 (pl.map AV.str)), (11, .int .i64 (i : Int)), (12, .sl false 1 (ks.map AV.str)), (13, .int .i64 (k : Int)), (14, .int .i64 (left - x)), (15, .int .i64 (j : Int))], [.box [.nils, .nils], .box [.sl false 1 (labs.map AV.str), .own 2 3 0 7], .box ([.str (ps 0), .own 3 2 0 nl, .int .i64 (us 0), .str (ps 1), .own 4 2 0 nl, .int .i64 (us 1), .str (ps 2), .own 5 2 0 nl, .int .i64 (us 2), .str (ps 3), .own 6 2 0 nl, .int .i64 (us 3), .str (ps 4), .own 7 2 0 nl, .int .i64 (us 4), .str (ps 5), .own 8 2 0 nl, .int .i64 (us 5), .str (ps 6), .own 9 2 0 nl, .int .i64 (us 6)] ++ List.replicate r AV.any), .arr 2 ((cs' 0).map CAP), .arr 2 ((cs' 1).map CAP), .arr 2 ((cs' 2).map CAP), .arr 2 ((cs' 3).map CAP), .arr 2 ((cs' 4).map CAP), .arr 2 ((cs' 5).map CAP), .arr 2 ((cs' 6).map CAP)]⟩) :
    aw Tryd.prog cc10T141 Q ⟨[(1, .sl false 1 (ns.map I64)), (4, .ref 0 0 0), (6, .ref 1 0 0), (7, .sl false 1 (pl.map AV.str)), (11, .int .i64 (i : Int)), (12, .sl false 1 (ks.map AV.str)), (13, .int .i64 (k : Int)), (14, .int .i64 left), (15, .int .i64 (j : Int)), (16, .int .i64 x)], [.box [.nils, .nils], .box [.sl false 1 (labs.map AV.str), .own 2 3 0 7], .box ([.str (ps 0), .own 3 2 0 nl, .int .i64 (us 0), .str (ps 1), .own 4 2 0 nl, .int .i64 (us 1), .str (ps 2), .own 5 2 0 nl, .int .i64 (us 2), .str (ps 3), .own 6 2 0 nl, .int .i64 (us 3), .str (ps 4), .own 7 2 0 nl, .int .i64 (us 4), .str (ps 5), .own 8 2 0 nl, .int .i64 (us 5), .str (ps 6), .own 9 2 0 nl, .int .i64 (us 6)] ++ List.replicate r AV.any), .arr 2 ((cs 0).map CAP), .arr 2 ((cs 1).map CAP), .arr 2 ((cs 2).map CAP), .arr 2 ((cs 3).map CAP), .arr 2 ((cs 4).map CAP), .arr 2 ((cs 5).map CAP), .arr 2 ((cs 6).map CAP)]⟩ := by
  unfold cc10T141
  have c5 := pick_ok ns (j + k) hns
  rw [show (((j + k : Nat)) : Int) = (j : Int) + k by omega] at c5
  generalize pk ns (j + k) = v5 at c5
  have c8 := within_ok v5 (10000 - x + 1) (by omega) (by omega)
  have w8 := win_rng v5 (10000 - x + 1) (by omega)
  generalize win v5 (10000 - x + 1) = x8 at c8 w8
  have c6 := pick_ok ns (i + 2 * j) hns
  rw [show (((i + 2 * j : Nat)) : Int) = (i : Int) + 2 * j by omega] at c6
  generalize pk ns (i + 2 * j) = v6 at c6
  have c7 := within_ok v6 3 (by omega) (by omega)
  have w7 := win_rng v6 3 (by omega)
  generalize win v6 3 = x7 at c7 w7
  rcases (by omega : x7 = 0 ∨ x7 = 1 ∨ x7 = 2) with rfl | rfl | rfl <;> (
  simp -implicitDefEqProofs (maxSteps := 500000) (disch := first | decide | omega) only [↓preS, ↓reduceIte, allS, Nat.reduceBEq, Nat.reduceAdd, Nat.reduceEqDiff, reduceIte, Int.reduceToNat, Int.reduceLE, Int.reduceLT, Nat.reduceLeDiff, Nat.reduceMul, Nat.reducePow, Nat.reduceLT, Int.reduceBEq, Int.reduceBNe, Int.reduceAdd, Int.reduceSub, Int.reduceMul, Int.reduceGT, Int.reduceGE, decS, Int.reduceNe, Int.reduceEq]
  refine acK_of (FCall.of (lent := false) (c5) (.refl rfl) rfl (by simp)) ?_
  simp -implicitDefEqProofs (maxSteps := 500000) (disch := first | decide | omega) only [↓preS, ↓reduceIte, allS, Nat.reduceBEq, Nat.reduceAdd, Nat.reduceEqDiff, reduceIte, Int.reduceToNat, Int.reduceLE, Int.reduceLT, Nat.reduceLeDiff, Nat.reduceMul, Nat.reducePow, Nat.reduceLT, Int.reduceBEq, Int.reduceBNe, Int.reduceAdd, Int.reduceSub, Int.reduceMul, Int.reduceGT, Int.reduceGE, decS, Int.reduceNe, Int.reduceEq]
  refine acK_of (FCall.of (lent := false) (c8) (.refl rfl) rfl (by simp)) ?_
  simp -implicitDefEqProofs (maxSteps := 500000) (disch := first | decide | omega) only [↓preS, ↓reduceIte, allS, Nat.reduceBEq, Nat.reduceAdd, Nat.reduceEqDiff, reduceIte, Int.reduceToNat, Int.reduceLE, Int.reduceLT, Nat.reduceLeDiff, Nat.reduceMul, Nat.reducePow, Nat.reduceLT, Int.reduceBEq, Int.reduceBNe, Int.reduceAdd, Int.reduceSub, Int.reduceMul, Int.reduceGT, Int.reduceGE, decS, Int.reduceNe, Int.reduceEq]
  refine acK_of (FCall.of (lent := false) (c6) (.refl rfl) rfl (by simp)) ?_
  simp -implicitDefEqProofs (maxSteps := 500000) (disch := first | decide | omega) only [↓preS, ↓reduceIte, allS, Nat.reduceBEq, Nat.reduceAdd, Nat.reduceEqDiff, reduceIte, Int.reduceToNat, Int.reduceLE, Int.reduceLT, Nat.reduceLeDiff, Nat.reduceMul, Nat.reducePow, Nat.reduceLT, Int.reduceBEq, Int.reduceBNe, Int.reduceAdd, Int.reduceSub, Int.reduceMul, Int.reduceGT, Int.reduceGE, decS, Int.reduceNe, Int.reduceEq]
  refine acK_of (FCall.of (lent := false) (c7) (.refl rfl) rfl (by simp)) ?_
  simp -implicitDefEqProofs (maxSteps := 500000) (disch := first | decide | omega) only [↓preS, ↓reduceIte, allS, Nat.reduceBEq, Nat.reduceAdd, Nat.reduceEqDiff, reduceIte, Int.reduceToNat, Int.reduceLE, Int.reduceLT, Nat.reduceLeDiff, Nat.reduceMul, Nat.reducePow, Nat.reduceLT, Int.reduceBEq, Int.reduceBNe, Int.reduceAdd, Int.reduceSub, Int.reduceMul, Int.reduceGT, Int.reduceGE, decS, Int.reduceNe, Int.reduceEq, ldo_cons1, part_int, List.getD_cons_zero, List.getD_cons_succ]
  first | refine And.intro (by decide) ?_ | skip
  unfold cc10L0
  simp -implicitDefEqProofs (maxSteps := 500000) (disch := first | decide | omega) only [↓preS, ↓reduceIte, allS, Nat.reduceBEq, Nat.reduceAdd, Nat.reduceEqDiff, reduceIte, Int.reduceToNat, Int.reduceLE, Int.reduceLT, Nat.reduceLeDiff, Nat.reduceMul, Nat.reducePow, Nat.reduceLT, Int.reduceBEq, Int.reduceBNe, Int.reduceAdd, Int.reduceSub, Int.reduceMul, Int.reduceGT, Int.reduceGE, decS, Int.reduceNe, Int.reduceEq]
  refine mloop7 ns labs pl ks nl r i (left - x) x _ j k hj hk ps us cs hcs _ (fun cs' hcs' hcu => ?_) _ (by (refine Sub.ofL [some 0, some 1, some 2, some 3, some 4, some 5, some 6, some 7, some 8, some 9] rfl (by simp) (by decide) (by simp [partL, AO.ro, AV.ro, AV.roL, names, AO.empty, SB, U8, SI, I64, STR] <;> (try and_intros) <;> rfl) (by simp [AO.bo, AV.bo, AV.boL, names] <;> (try and_intros) <;> rfl) ?_ <;> (try simp only [List.map_cons, List.map_nil, regsL, AV.ro, AV.roL, AV.bo, AV.boL, names, get_here, get_there, Nat.reduceBEq, List.getD_cons_zero, List.getD_cons_succ, List.getD_nil, and_true, true_and, Nat.reduceLT, List.length_cons, List.length_nil, Nat.reduceAdd, decide_true, Option.isSome_some, Bool.true_or, Bool.and_self, Option.isSome_none, Bool.false_or, beq_self_eq_true, wk0_self, wk0_nils]) <;> (try and_intros) <;> (first | done | rfl | exact .inl rfl | exact .inr ⟨rfl, _, _, rfl⟩ | (simp; done) | (simp; omega) | (refine .inl ?_; simp; done) | (refine .inl ?_; simp; omega))))
  simp -implicitDefEqProofs (maxSteps := 500000) (disch := first | decide | omega) only [↓preS, ↓reduceIte, allS, Nat.reduceBEq, Nat.reduceAdd, Nat.reduceEqDiff, reduceIte, Int.reduceToNat, Int.reduceLE, Int.reduceLT, Nat.reduceLeDiff, Nat.reduceMul, Nat.reducePow, Nat.reduceLT, Int.reduceBEq, Int.reduceBNe, Int.reduceAdd, Int.reduceSub, Int.reduceMul, Int.reduceGT, Int.reduceGE, decS, Int.reduceNe, Int.reduceEq]
  exact hQ _ cs' hcs' (by omega) (by omega) hcu)
set_option maxRecDepth 20000 in
set_option maxHeartbeats 16000000 in
theorem mid7g (ns : List Int) (hns : ns.length < 2 ^ 62) (labs pl ks : List (List UInt8)) (nl r : Nat) (i j k : Nat) (left x : Int) (hi : i ≤ 7) (hj : j < ks.length) (hks : ks.length ≤ 7) (hk : k < nl) (hnl : nl ≤ 2) (hx0 : 0 ≤ x) (hx1 : x ≤ left) (hl1 : left ≤ 10000) (ps : Nat → List UInt8) (us : Nat → Int) (cs : Nat → List Cap) (hcs : ∀ q, q < 7 → (cs q).length = nl) (gl : List AV) (Q : AE → St → Prop)
    (hQ : ∀ (y : Int) (cs' : Nat → List Cap), (∀ q, q < 7 → (cs' q).length = nl) → x ≤ y → y ≤ 10000 → cs' = updK ps 7 ks[j] k ⟨x, y⟩ cs → Q .normal ⟨[(1, .sl false 1 (ns.map I64)), (4, .ref 0 0 0), (6, .ref 1 0 0), (7, .sl false 1 (pl.map AV.str)), (11, .int .i64 (i : Int)), (12, .sl false 1 (ks.map AV.str)), (13, .int .i64 (k : Int)), (14, .int .i64 (left - x)), (15, .int .i64 (j : Int))], [.box [.nils, .nils], .box [.sl false 1 (labs.map AV.str), .own 2 3 0 7], .box ([.str (ps 0), .own 3 2 0 nl, .int .i64 (us 0), .str (ps 1), .own 4 2 0 nl, .int .i64 (us 1), .str (ps 2), .own 5 2 0 nl, .int .i64 (us 2), .str (ps 3), .own 6 2 0 nl, .int .i64 (us 3), .str (ps 4), .own 7 2 0 nl, .int .i64 (us 4), .str (ps 5), .own 8 2 0 nl, .int .i64 (us 5), .str (ps 6), .own 9 2 0 nl, .int .i64 (us 6)] ++ List.replicate r AV.any), .arr 2 ((cs' 0).map CAP), .arr 2 ((cs' 1).map CAP), .arr 2 ((cs' 2).map CAP), .arr 2 ((cs' 3).map CAP), .arr 2 ((cs' 4).map CAP), .arr 2 ((cs' 5).map CAP), .arr 2 ((cs' 6).map CAP)]⟩) :
    aw Tryd.prog cc10T141 Q ⟨[(1, .sl false 1 (ns.map I64)), (4, .ref 0 0 0), (6, .ref 1 0 0), (7, .sl false 1 (pl.map AV.str)), (11, .int .i64 (i : Int)), (12, .sl false 1 (ks.map AV.str)), (13, .int .i64 (k : Int)), (14, .int .i64 left), (15, .int .i64 (j : Int)), (16, .int .i64 x)], [.box [.nils, .nils], .box [.sl false 1 (labs.map AV.str), .own 2 3 0 7], .box ([.str (ps 0), .own 3 2 0 nl, .int .i64 (us 0), .str (ps 1), .own 4 2 0 nl, .int .i64 (us 1), .str (ps 2), .own 5 2 0 nl, .int .i64 (us 2), .str (ps 3), .own 6 2 0 nl, .int .i64 (us 3), .str (ps 4), .own 7 2 0 nl, .int .i64 (us 4), .str (ps 5), .own 8 2 0 nl, .int .i64 (us 5), .str (ps 6), .own 9 2 0 nl, .int .i64 (us 6)] ++ List.replicate r AV.any), .arr 2 ((cs 0).map CAP), .arr 2 ((cs 1).map CAP), .arr 2 ((cs 2).map CAP), .arr 2 ((cs 3).map CAP), .arr 2 ((cs 4).map CAP), .arr 2 ((cs 5).map CAP), .arr 2 ((cs 6).map CAP), .arr 1 gl]⟩ := by
  unfold cc10T141
  have c5 := pick_ok ns (j + k) hns
  rw [show (((j + k : Nat)) : Int) = (j : Int) + k by omega] at c5
  generalize pk ns (j + k) = v5 at c5
  have c8 := within_ok v5 (10000 - x + 1) (by omega) (by omega)
  have w8 := win_rng v5 (10000 - x + 1) (by omega)
  generalize win v5 (10000 - x + 1) = x8 at c8 w8
  have c6 := pick_ok ns (i + 2 * j) hns
  rw [show (((i + 2 * j : Nat)) : Int) = (i : Int) + 2 * j by omega] at c6
  generalize pk ns (i + 2 * j) = v6 at c6
  have c7 := within_ok v6 3 (by omega) (by omega)
  have w7 := win_rng v6 3 (by omega)
  generalize win v6 3 = x7 at c7 w7
  rcases (by omega : x7 = 0 ∨ x7 = 1 ∨ x7 = 2) with rfl | rfl | rfl <;> (
  simp -implicitDefEqProofs (maxSteps := 500000) (disch := first | decide | omega) only [↓preS, ↓reduceIte, allS, Nat.reduceBEq, Nat.reduceAdd, Nat.reduceEqDiff, reduceIte, Int.reduceToNat, Int.reduceLE, Int.reduceLT, Nat.reduceLeDiff, Nat.reduceMul, Nat.reducePow, Nat.reduceLT, Int.reduceBEq, Int.reduceBNe, Int.reduceAdd, Int.reduceSub, Int.reduceMul, Int.reduceGT, Int.reduceGE, decS, Int.reduceNe, Int.reduceEq]
  refine acK_of (FCall.of (lent := false) (c5) (.refl rfl) rfl (by simp)) ?_
  simp -implicitDefEqProofs (maxSteps := 500000) (disch := first | decide | omega) only [↓preS, ↓reduceIte, allS, Nat.reduceBEq, Nat.reduceAdd, Nat.reduceEqDiff, reduceIte, Int.reduceToNat, Int.reduceLE, Int.reduceLT, Nat.reduceLeDiff, Nat.reduceMul, Nat.reducePow, Nat.reduceLT, Int.reduceBEq, Int.reduceBNe, Int.reduceAdd, Int.reduceSub, Int.reduceMul, Int.reduceGT, Int.reduceGE, decS, Int.reduceNe, Int.reduceEq]
  refine acK_of (FCall.of (lent := false) (c8) (.refl rfl) rfl (by simp)) ?_
  simp -implicitDefEqProofs (maxSteps := 500000) (disch := first | decide | omega) only [↓preS, ↓reduceIte, allS, Nat.reduceBEq, Nat.reduceAdd, Nat.reduceEqDiff, reduceIte, Int.reduceToNat, Int.reduceLE, Int.reduceLT, Nat.reduceLeDiff, Nat.reduceMul, Nat.reducePow, Nat.reduceLT, Int.reduceBEq, Int.reduceBNe, Int.reduceAdd, Int.reduceSub, Int.reduceMul, Int.reduceGT, Int.reduceGE, decS, Int.reduceNe, Int.reduceEq]
  refine acK_of (FCall.of (lent := false) (c6) (.refl rfl) rfl (by simp)) ?_
  simp -implicitDefEqProofs (maxSteps := 500000) (disch := first | decide | omega) only [↓preS, ↓reduceIte, allS, Nat.reduceBEq, Nat.reduceAdd, Nat.reduceEqDiff, reduceIte, Int.reduceToNat, Int.reduceLE, Int.reduceLT, Nat.reduceLeDiff, Nat.reduceMul, Nat.reducePow, Nat.reduceLT, Int.reduceBEq, Int.reduceBNe, Int.reduceAdd, Int.reduceSub, Int.reduceMul, Int.reduceGT, Int.reduceGE, decS, Int.reduceNe, Int.reduceEq]
  refine acK_of (FCall.of (lent := false) (c7) (.refl rfl) rfl (by simp)) ?_
  simp -implicitDefEqProofs (maxSteps := 500000) (disch := first | decide | omega) only [↓preS, ↓reduceIte, allS, Nat.reduceBEq, Nat.reduceAdd, Nat.reduceEqDiff, reduceIte, Int.reduceToNat, Int.reduceLE, Int.reduceLT, Nat.reduceLeDiff, Nat.reduceMul, Nat.reducePow, Nat.reduceLT, Int.reduceBEq, Int.reduceBNe, Int.reduceAdd, Int.reduceSub, Int.reduceMul, Int.reduceGT, Int.reduceGE, decS, Int.reduceNe, Int.reduceEq, ldo_cons1, part_int, List.getD_cons_zero, List.getD_cons_succ]
  first | refine And.intro (by decide) ?_ | skip
  unfold cc10L0
  simp -implicitDefEqProofs (maxSteps := 500000) (disch := first | decide | omega) only [↓preS, ↓reduceIte, allS, Nat.reduceBEq, Nat.reduceAdd, Nat.reduceEqDiff, reduceIte, Int.reduceToNat, Int.reduceLE, Int.reduceLT, Nat.reduceLeDiff, Nat.reduceMul, Nat.reducePow, Nat.reduceLT, Int.reduceBEq, Int.reduceBNe, Int.reduceAdd, Int.reduceSub, Int.reduceMul, Int.reduceGT, Int.reduceGE, decS, Int.reduceNe, Int.reduceEq]
  refine mloop7 ns labs pl ks nl r i (left - x) x _ j k hj hk ps us cs hcs _ (fun cs' hcs' hcu => ?_) _ (by (refine Sub.ofL [some 0, some 1, some 2, some 3, some 4, some 5, some 6, some 7, some 8, some 9] rfl (by simp) (by decide) (by simp [partL, AO.ro, AV.ro, AV.roL, names, AO.empty, SB, U8, SI, I64, STR] <;> (try and_intros) <;> rfl) (by simp [AO.bo, AV.bo, AV.boL, names] <;> (try and_intros) <;> rfl) ?_ <;> (try simp only [List.map_cons, List.map_nil, regsL, AV.ro, AV.roL, AV.bo, AV.boL, names, get_here, get_there, Nat.reduceBEq, List.getD_cons_zero, List.getD_cons_succ, List.getD_nil, and_true, true_and, Nat.reduceLT, List.length_cons, List.length_nil, Nat.reduceAdd, decide_true, Option.isSome_some, Bool.true_or, Bool.and_self, Option.isSome_none, Bool.false_or, beq_self_eq_true, wk0_self, wk0_nils]) <;> (try and_intros) <;> (first | done | rfl | exact .inl rfl | exact .inr ⟨rfl, _, _, rfl⟩ | (simp; done) | (simp; omega) | (refine .inl ?_; simp; done) | (refine .inl ?_; simp; omega))))
  simp -implicitDefEqProofs (maxSteps := 500000) (disch := first | decide | omega) only [↓preS, ↓reduceIte, allS, Nat.reduceBEq, Nat.reduceAdd, Nat.reduceEqDiff, reduceIte, Int.reduceToNat, Int.reduceLE, Int.reduceLT, Nat.reduceLeDiff, Nat.reduceMul, Nat.reducePow, Nat.reduceLT, Int.reduceBEq, Int.reduceBNe, Int.reduceAdd, Int.reduceSub, Int.reduceMul, Int.reduceGT, Int.reduceGE, decS, Int.reduceNe, Int.reduceEq]
  exact hQ _ cs' hcs' (by omega) (by omega) hcu)
set_option maxRecDepth 20000 in
set_option maxHeartbeats 16000000 in
theorem jloop7 (ns : List Int) (hns : ns.length < 2 ^ 62) (labs pl ks : List (List UInt8)) (hks : ks.length ≤ 7) (nl r : Nat) (i k : Nat) (hi : i ≤ 7) (hk : k < nl) (hnl : nl ≤ 2) (ps : Nat → List UInt8) (us : Nat → Int) (cs : Nat → List Cap) (hcs : ∀ q, q < 7 → (cs q).length = nl) (Q : AE → St → Prop)
    (hQ : ∀ lf, ∀ cs' : Nat → List Cap, (∀ q, q < 7 → (cs' q).length = nl) → Sh ps 7 ks k cs ks.length lf cs' → Q (.exit 8) ⟨[(1, .sl false 1 (ns.map I64)), (4, .ref 0 0 0), (6, .ref 1 0 0), (7, .sl false 1 (pl.map AV.str)), (11, .int .i64 (i : Int)), (12, .sl false 1 (ks.map AV.str)), (13, .int .i64 (k : Int)), (14, .int .i64 lf), (15, .int .i64 (ks.length : Int)), (108, .bool false)], [.box [.nils, .nils], .box [.sl false 1 (labs.map AV.str), .own 2 3 0 7], .box ([.str (ps 0), .own 3 2 0 nl, .int .i64 (us 0), .str (ps 1), .own 4 2 0 nl, .int .i64 (us 1), .str (ps 2), .own 5 2 0 nl, .int .i64 (us 2), .str (ps 3), .own 6 2 0 nl, .int .i64 (us 3), .str (ps 4), .own 7 2 0 nl, .int .i64 (us 4), .str (ps 5), .own 8 2 0 nl, .int .i64 (us 5), .str (ps 6), .own 9 2 0 nl, .int .i64 (us 6)] ++ List.replicate r AV.any), .arr 2 ((cs' 0).map CAP), .arr 2 ((cs' 1).map CAP), .arr 2 ((cs' 2).map CAP), .arr 2 ((cs' 3).map CAP), .arr 2 ((cs' 4).map CAP), .arr 2 ((cs' 5).map CAP), .arr 2 ((cs' 6).map CAP)]⟩) (s0 : St) (hs0 : Sub 0 (keepK (some [1, 4, 6, 7, 11, 12, 13, 14, 15]) s0) ⟨[(1, .sl false 1 (ns.map I64)), (4, .ref 0 0 0), (6, .ref 1 0 0), (7, .sl false 1 (pl.map AV.str)), (11, .int .i64 (i : Int)), (12, .sl false 1 (ks.map AV.str)), (13, .int .i64 (k : Int)), (14, .int .i64 10000), (15, .int .i64 (((0 : Nat) : Int) : Int))], [.box [.nils, .nils], .box [.sl false 1 (labs.map AV.str), .own 2 3 0 7], .box ([.str (ps 0), .own 3 2 0 nl, .int .i64 (us 0), .str (ps 1), .own 4 2 0 nl, .int .i64 (us 1), .str (ps 2), .own 5 2 0 nl, .int .i64 (us 2), .str (ps 3), .own 6 2 0 nl, .int .i64 (us 3), .str (ps 4), .own 7 2 0 nl, .int .i64 (us 4), .str (ps 5), .own 8 2 0 nl, .int .i64 (us 5), .str (ps 6), .own 9 2 0 nl, .int .i64 (us 6)] ++ List.replicate r AV.any), .arr 2 ((cs 0).map CAP), .arr 2 ((cs 1).map CAP), .arr 2 ((cs 2).map CAP), .arr 2 ((cs 3).map CAP), .arr 2 ((cs 4).map CAP), .arr 2 ((cs 5).map CAP), .arr 2 ((cs 6).map CAP)]⟩) :
    aw Tryd.prog (.loop 0 (some [1, 4, 6, 7, 11, 12, 13, 14, 15]) cc10l1) Q s0 := by
  refine aw_loopS (σ := Nat × Int × (Nat → List Cap)) (fun q => ⟨[(1, .sl false 1 (ns.map I64)), (4, .ref 0 0 0), (6, .ref 1 0 0), (7, .sl false 1 (pl.map AV.str)), (11, .int .i64 (i : Int)), (12, .sl false 1 (ks.map AV.str)), (13, .int .i64 (k : Int)), (14, .int .i64 q.2.1), (15, .int .i64 (q.1 : Int))], [.box [.nils, .nils], .box [.sl false 1 (labs.map AV.str), .own 2 3 0 7], .box ([.str (ps 0), .own 3 2 0 nl, .int .i64 (us 0), .str (ps 1), .own 4 2 0 nl, .int .i64 (us 1), .str (ps 2), .own 5 2 0 nl, .int .i64 (us 2), .str (ps 3), .own 6 2 0 nl, .int .i64 (us 3), .str (ps 4), .own 7 2 0 nl, .int .i64 (us 4), .str (ps 5), .own 8 2 0 nl, .int .i64 (us 5), .str (ps 6), .own 9 2 0 nl, .int .i64 (us 6)] ++ List.replicate r AV.any), .arr 2 ((q.2.2 0).map CAP), .arr 2 ((q.2.2 1).map CAP), .arr 2 ((q.2.2 2).map CAP), .arr 2 ((q.2.2 3).map CAP), .arr 2 ((q.2.2 4).map CAP), .arr 2 ((q.2.2 5).map CAP), .arr 2 ((q.2.2 6).map CAP)]⟩) (fun q => q.1 ≤ ks.length ∧ 0 ≤ q.2.1 ∧ q.2.1 ≤ 10000 ∧ (∀ w, w < 7 → (q.2.2 w).length = nl) ∧ Sh ps 7 ks k cs q.1 q.2.1 q.2.2) (fun q => ks.length - q.1) (0, 10000, cs) hs0 ⟨by simp, by simp, by simp, hcs, .zero⟩ ?_
  rintro ⟨j, left, cz⟩ ⟨hj, hl0, hl1, hcs, hsh⟩
  simp only at hj hl0 hl1 hcs hsh ⊢
  unfold cc10l1
  by_cases hjk : j < ks.length
  · have c1 := pick_ok ns (i + j + k) hns
    rw [show (((i + j + k : Nat)) : Int) = (i : Int) + j + k by omega] at c1
    generalize pk ns (i + j + k) = v1 at c1
    have c2 := within_ok v1 (left + 1) (by omega) (by omega)
    have w2 := win_rng v1 (left + 1) (by omega)
    generalize win v1 (left + 1) = x1 at c2 w2
    have hij : i * j ≤ 7 * 7 := Nat.mul_le_mul hi (by omega)
    have c3 := pick_ok ns (i * j + k) hns
    rw [show (((i * j + k : Nat)) : Int) = (i : Int) * j + k by rw [Int.natCast_add, Int.natCast_mul]] at c3
    generalize pk ns (i * j + k) = v3 at c3
    have c4 := within_ok v3 4 (by omega) (by omega)
    have w4 := win_rng v3 4 (by omega)
    generalize win v3 4 = x4 at c4 w4
    have hij2 : 0 ≤ (i : Int) * j ∧ (i : Int) * j ≤ 49 := by
      have : ((i * j : Nat) : Int) = (i : Int) * j := Int.natCast_mul i j
      omega
    obtain ⟨h2, hw2, h20, h21⟩ := half_ok left hl0 hl1
    by_cases hlast : (j : Int) < (ks.length : Int) - 1
    · rcases (by omega : x4 = 0 ∨ x4 = 1 ∨ x4 = 2 ∨ x4 = 3) with rfl | rfl | rfl | rfl
      all_goals (
        simp -implicitDefEqProofs (maxSteps := 500000) (disch := first | decide | omega) only [↓preS, ↓reduceIte, allS, Nat.reduceBEq, Nat.reduceAdd, Nat.reduceEqDiff, reduceIte, Int.reduceToNat, Int.reduceLE, Int.reduceLT, Nat.reduceLeDiff, Nat.reduceMul, Nat.reducePow, Nat.reduceLT, Int.reduceBEq, Int.reduceBNe, Int.reduceAdd, Int.reduceSub, Int.reduceMul, Int.reduceGT, Int.reduceGE, decS, Int.reduceNe, Int.reduceEq, hw2]
        refine acK_of (FCall.of (lent := false) (c1) (.refl rfl) rfl (by simp)) ?_
        simp -implicitDefEqProofs (maxSteps := 500000) (disch := first | decide | omega) only [↓preS, ↓reduceIte, allS, Nat.reduceBEq, Nat.reduceAdd, Nat.reduceEqDiff, reduceIte, Int.reduceToNat, Int.reduceLE, Int.reduceLT, Nat.reduceLeDiff, Nat.reduceMul, Nat.reducePow, Nat.reduceLT, Int.reduceBEq, Int.reduceBNe, Int.reduceAdd, Int.reduceSub, Int.reduceMul, Int.reduceGT, Int.reduceGE, decS, Int.reduceNe, Int.reduceEq, hw2]
        refine acK_of (FCall.of (lent := false) (c2) (.refl rfl) rfl (by simp)) ?_
        simp -implicitDefEqProofs (maxSteps := 500000) (disch := first | decide | omega) only [↓preS, ↓reduceIte, allS, Nat.reduceBEq, Nat.reduceAdd, Nat.reduceEqDiff, reduceIte, Int.reduceToNat, Int.reduceLE, Int.reduceLT, Nat.reduceLeDiff, Nat.reduceMul, Nat.reducePow, Nat.reduceLT, Int.reduceBEq, Int.reduceBNe, Int.reduceAdd, Int.reduceSub, Int.reduceMul, Int.reduceGT, Int.reduceGE, decS, Int.reduceNe, Int.reduceEq, hw2]
        refine acK_of (FCall.of (lent := false) (c3) (.refl rfl) rfl (by simp)) ?_
        simp -implicitDefEqProofs (maxSteps := 500000) (disch := first | decide | omega) only [↓preS, ↓reduceIte, allS, Nat.reduceBEq, Nat.reduceAdd, Nat.reduceEqDiff, reduceIte, Int.reduceToNat, Int.reduceLE, Int.reduceLT, Nat.reduceLeDiff, Nat.reduceMul, Nat.reducePow, Nat.reduceLT, Int.reduceBEq, Int.reduceBNe, Int.reduceAdd, Int.reduceSub, Int.reduceMul, Int.reduceGT, Int.reduceGE, decS, Int.reduceNe, Int.reduceEq]
        refine acK_of (FCall.of (lent := false) (c4) (.refl rfl) rfl (by simp)) ?_
        simp -implicitDefEqProofs (maxSteps := 500000) (disch := first | decide | omega) only [↓preS, ↓reduceIte, allS, Nat.reduceBEq, Nat.reduceAdd, Nat.reduceEqDiff, reduceIte, Int.reduceToNat, Int.reduceLE, Int.reduceLT, Nat.reduceLeDiff, Nat.reduceMul, Nat.reducePow, Nat.reduceLT, Int.reduceBEq, Int.reduceBNe, Int.reduceAdd, Int.reduceSub, Int.reduceMul, Int.reduceGT, Int.reduceGE, decS, Int.reduceNe, Int.reduceEq, ldo_cons1, part_int, List.getD_cons_zero, List.getD_cons_succ]
        first | refine And.intro (by decide) ?_ | skip)
      · refine mid7g ns hns labs pl ks nl r i j k left 0 hi hjk hks hk hnl (by omega) (by omega) hl1 ps us cz hcs _ _ fun y cs' hcs' hy1 hy2 hcu => ?_
        simp -implicitDefEqProofs (maxSteps := 500000) (disch := first | decide | omega) only [↓preS, ↓reduceIte, allS, Nat.reduceBEq, Nat.reduceAdd, Nat.reduceEqDiff, reduceIte, Int.reduceToNat, Int.reduceLE, Int.reduceLT, Nat.reduceLeDiff, Nat.reduceMul, Nat.reducePow, Nat.reduceLT, Int.reduceBEq, Int.reduceBNe, Int.reduceAdd, Int.reduceSub, Int.reduceMul, Int.reduceGT, Int.reduceGE, decS, Int.reduceNe, Int.reduceEq]
        refine ⟨(j + 1, left, cs'), ?_, ⟨by simp only; omega, by simp only; omega, by simp only; omega, hcs', (by simp only; rw [hcu]; exact (Sh.step (x := 0) (y := y) hjk hsh (by omega) (by omega) hy1 hy2 (by omega)).of (by omega))⟩, by simp only; omega⟩
        first | exact .inl rfl | (simp only [Int.sub_self, Int.sub_zero]; exact .inl rfl)
      · refine mid7g ns hns labs pl ks nl r i j k left h2 hi hjk hks hk hnl (by omega) (by omega) hl1 ps us cz hcs _ _ fun y cs' hcs' hy1 hy2 hcu => ?_
        simp -implicitDefEqProofs (maxSteps := 500000) (disch := first | decide | omega) only [↓preS, ↓reduceIte, allS, Nat.reduceBEq, Nat.reduceAdd, Nat.reduceEqDiff, reduceIte, Int.reduceToNat, Int.reduceLE, Int.reduceLT, Nat.reduceLeDiff, Nat.reduceMul, Nat.reducePow, Nat.reduceLT, Int.reduceBEq, Int.reduceBNe, Int.reduceAdd, Int.reduceSub, Int.reduceMul, Int.reduceGT, Int.reduceGE, decS, Int.reduceNe, Int.reduceEq]
        refine ⟨(j + 1, left - h2, cs'), ?_, ⟨by simp only; omega, by simp only; omega, by simp only; omega, hcs', (by simp only; rw [hcu]; exact (Sh.step (x := h2) (y := y) hjk hsh (by omega) (by omega) hy1 hy2 (by omega)).of (by omega))⟩, by simp only; omega⟩
        first | exact .inl rfl | (simp only [Int.sub_self, Int.sub_zero]; exact .inl rfl)
      · refine mid7g ns hns labs pl ks nl r i j k left left hi hjk hks hk hnl (by omega) (by omega) hl1 ps us cz hcs _ _ fun y cs' hcs' hy1 hy2 hcu => ?_
        simp -implicitDefEqProofs (maxSteps := 500000) (disch := first | decide | omega) only [↓preS, ↓reduceIte, allS, Nat.reduceBEq, Nat.reduceAdd, Nat.reduceEqDiff, reduceIte, Int.reduceToNat, Int.reduceLE, Int.reduceLT, Nat.reduceLeDiff, Nat.reduceMul, Nat.reducePow, Nat.reduceLT, Int.reduceBEq, Int.reduceBNe, Int.reduceAdd, Int.reduceSub, Int.reduceMul, Int.reduceGT, Int.reduceGE, decS, Int.reduceNe, Int.reduceEq]
        refine ⟨(j + 1, 0, cs'), ?_, ⟨by simp only; omega, by simp only; omega, by simp only; omega, hcs', (by simp only; rw [hcu]; exact (Sh.step (x := left) (y := y) hjk hsh (by omega) (by omega) hy1 hy2 (by omega)).of (by omega))⟩, by simp only; omega⟩
        first | exact .inl rfl | (simp only [Int.sub_self, Int.sub_zero]; exact .inl rfl)
      · refine mid7g ns hns labs pl ks nl r i j k left x1 hi hjk hks hk hnl (by omega) (by omega) hl1 ps us cz hcs _ _ fun y cs' hcs' hy1 hy2 hcu => ?_
        simp -implicitDefEqProofs (maxSteps := 500000) (disch := first | decide | omega) only [↓preS, ↓reduceIte, allS, Nat.reduceBEq, Nat.reduceAdd, Nat.reduceEqDiff, reduceIte, Int.reduceToNat, Int.reduceLE, Int.reduceLT, Nat.reduceLeDiff, Nat.reduceMul, Nat.reducePow, Nat.reduceLT, Int.reduceBEq, Int.reduceBNe, Int.reduceAdd, Int.reduceSub, Int.reduceMul, Int.reduceGT, Int.reduceGE, decS, Int.reduceNe, Int.reduceEq]
        refine ⟨(j + 1, left - x1, cs'), ?_, ⟨by simp only; omega, by simp only; omega, by simp only; omega, hcs', (by simp only; rw [hcu]; exact (Sh.step (x := x1) (y := y) hjk hsh (by omega) (by omega) hy1 hy2 (by omega)).of (by omega))⟩, by simp only; omega⟩
        first | exact .inl rfl | (simp only [Int.sub_self, Int.sub_zero]; exact .inl rfl)
    · simp -implicitDefEqProofs (maxSteps := 500000) (disch := first | decide | omega) only [↓preS, ↓reduceIte, allS, Nat.reduceBEq, Nat.reduceAdd, Nat.reduceEqDiff, reduceIte, Int.reduceToNat, Int.reduceLE, Int.reduceLT, Nat.reduceLeDiff, Nat.reduceMul, Nat.reducePow, Nat.reduceLT, Int.reduceBEq, Int.reduceBNe, Int.reduceAdd, Int.reduceSub, Int.reduceMul, Int.reduceGT, Int.reduceGE, decS, Int.reduceNe, Int.reduceEq]
      refine mid7 ns hns labs pl ks nl r i j k left left hi hjk hks hk hnl hl0 (by omega) hl1 ps us cz hcs _ fun y cs' hcs' hy1 hy2 hcu => ?_
      simp -implicitDefEqProofs (maxSteps := 500000) (disch := first | decide | omega) only [↓preS, ↓reduceIte, allS, Nat.reduceBEq, Nat.reduceAdd, Nat.reduceEqDiff, reduceIte, Int.reduceToNat, Int.reduceLE, Int.reduceLT, Nat.reduceLeDiff, Nat.reduceMul, Nat.reducePow, Nat.reduceLT, Int.reduceBEq, Int.reduceBNe, Int.reduceAdd, Int.reduceSub, Int.reduceMul, Int.reduceGT, Int.reduceGE, decS, Int.reduceNe, Int.reduceEq]
      refine ⟨(j + 1, 0, cs'), ?_, ⟨by simp only; omega, by simp only; omega, by simp only; omega, hcs', (by simp only; rw [hcu]; exact (Sh.step (x := left) (y := y) hjk hsh (by omega) (by omega) hy1 hy2 (by omega)).of (by omega))⟩, by simp only; omega⟩
      first | exact .inl rfl | (simp only [Int.sub_self, Int.sub_zero]; exact .inl rfl)
  · have : j = ks.length := by omega
    subst this
    simp -implicitDefEqProofs (maxSteps := 500000) (disch := first | decide | omega) only [↓preS, ↓reduceIte, allS, Nat.reduceBEq, Nat.reduceAdd, Nat.reduceEqDiff, reduceIte, Int.reduceToNat, Int.reduceLE, Int.reduceLT, Nat.reduceLeDiff, Nat.reduceMul, Nat.reducePow, Nat.reduceLT, Int.reduceBEq, Int.reduceBNe, Int.reduceAdd, Int.reduceSub, Int.reduceMul, Int.reduceGT, Int.reduceGE, decS, Int.reduceNe, Int.reduceEq]
    exact hQ left cz hcs hsh
end Go.Proofs.YtcplpegahpmnjaaDoor
