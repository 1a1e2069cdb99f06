/- What functions of the program compute. No condition. -/
import Derived.Test.YtcplpegahpmnjaaDoorU31
set_option linter.unusedSimpArgs false
set_option linter.unusedVariables false
namespace Go.Proofs.YtcplpegahpmnjaaDoor
open Go Go.Ab
def kidsGood (pl : List (List UInt8)) : Bool := (pl.all fun p => let ks := kidsS p pl
  (ks.all fun k => decide (2 ≤ (upN k.length k).length) && ((upN k.length k).getD 1 [] == p)) && (List.range ks.length).all fun i => i == 0 || Op.bytesLess (ks.getD (i - 1) []) (ks.getD i [])) &&
  (pl.map fun p => (kidsS p pl).length).sum == pl.length - 1 && !pl.any (· == [110, 111, 98, 111, 100, 121]) && (kidsS [] pl).isEmpty
def kn (pl : List (List UInt8)) (i : Nat) : Nat := ((pl.take i).map fun p => (kidsS p pl).length).sum
theorem kn_succ {pl : List (List UInt8)} {i : Nat} (h : i < pl.length) : kn pl (i + 1) = kn pl i + (kidsS pl[i] pl).length := by
  unfold kn
  rw [List.take_succ_eq_append_getElem h, List.map_append, List.sum_append]
  simp only [List.map_cons, List.map_nil, List.sum_cons, List.sum_nil, Nat.add_zero]
theorem kn_le (pl : List (List UInt8)) : ∀ i, kn pl i ≤ i * pl.length
  | 0 => by simp [kn]
  | i + 1 => by
    have ih := kn_le pl i
    by_cases h : i < pl.length
    · rw [kn_succ h]
      have : (kidsS pl[i] pl).length ≤ pl.length := List.length_filter_le _ _
      rw [Nat.succ_mul]
      omega
    · unfold kn at ih ⊢
      rw [List.take_of_length_le (by omega)] at ih ⊢
      rw [Nat.succ_mul]
      omega
theorem kids_of {t : List (List UInt8)} (h : kidsGood t = true) : (∀ p ∈ t, (∀ (i : Nat) (hi : i < (kidsS p t).length), 2 ≤ (upL (kidsS p t)[i]).length ∧ (upL (kidsS p t)[i]).getD 1 default = p ∧ (0 < i → Op.bytesLess ((kidsS p t).getD (i - 1) default) (kidsS p t)[i] = true))) ∧ kn t t.length = t.length - 1 ∧ t.any (· == [110, 111, 98, 111, 100, 121]) = false ∧ kidsS [] t = [] := by
  unfold kidsGood at h
  simp only [Bool.and_eq_true, Bool.not_eq_true'] at h
  obtain ⟨⟨⟨h1, h2⟩, h3⟩, h4⟩ := h
  refine ⟨fun p hp i hi => ?_, ?_, h3, List.isEmpty_iff.1 h4⟩
  · have h1 := List.all_eq_true.1 h1 p hp
    simp only [Bool.and_eq_true] at h1
    have h5 := List.all_eq_true.1 h1.1 (kidsS p t)[i] (List.getElem_mem hi)
    simp only [Bool.and_eq_true, decide_eq_true_eq, beq_iff_eq] at h5
    rw [← upN_eq _ _ (Nat.le_refl _)] at h5
    refine ⟨h5.1, h5.2, fun h0 => ?_⟩
    have h6 := List.all_eq_true.1 h1.2 i (List.mem_range.2 hi)
    have e : (kidsS p t).getD i [] = (kidsS p t)[i] := by simp [hi]
    rw [e] at h6
    rcases Bool.or_eq_true_iff.1 h6 with h7 | h7
    · exact absurd (by simpa using h7) (show ¬ i = 0 by omega)
    · exact h7
  · unfold kn
    rw [List.take_length]
    simpa using h2
theorem trees_kids : ∀ t ∈ trees, kidsGood t = true := by decide +kernel
set_option maxRecDepth 20000 in
set_option maxHeartbeats 8000000 in
theorem kids_law (shape : Int) (ns : List Int) (hns : ns.length < 2 ^ 63) : ACall Tryd.prog 8 [.int .i64 shape, .sl false 1 (ns.map I64)] [] fun y _ => y = .bool true := by
  refine acall_of is8 (by simp) ?_
  unfold cc8
  simp -implicitDefEqProofs (maxSteps := 500000) (disch := first | decide | omega) only [↓preS, ↓reduceIte, allS, Nat.reduceBEq, Nat.reduceAdd, Nat.reduceEqDiff, reduceIte, Int.reduceToNat, Int.reduceLE, Int.reduceLT, Nat.reduceLeDiff, Nat.reduceMul, Nat.reducePow, Nat.reduceLT, Int.reduceBEq, Int.reduceBNe, Int.reduceAdd, Int.reduceSub, Int.reduceMul, Int.reduceGT, Int.reduceGE, decS, Int.reduceNe, Int.reduceEq]
  refine acK_of (FCall.of (lent := false) (known_ok) (.refl rfl) rfl (by simp)) ?_
  simp -implicitDefEqProofs (maxSteps := 500000) (disch := first | decide | omega) only [↓preS, ↓reduceIte, allS, Nat.reduceBEq, Nat.reduceAdd, Nat.reduceEqDiff, reduceIte, Int.reduceToNat, Int.reduceLE, Int.reduceLT, Nat.reduceLeDiff, Nat.reduceMul, Nat.reducePow, Nat.reduceLT, Int.reduceBEq, Int.reduceBNe, Int.reduceAdd, Int.reduceSub, Int.reduceMul, Int.reduceGT, Int.reduceGE, decS, Int.reduceNe, Int.reduceEq]
  by_cases h30 : ns.length > 30
  · simp -implicitDefEqProofs (maxSteps := 500000) (disch := first | decide | omega) only [↓preS, ↓reduceIte, allS, Nat.reduceBEq, Nat.reduceAdd, Nat.reduceEqDiff, reduceIte, Int.reduceToNat, Int.reduceLE, Int.reduceLT, Nat.reduceLeDiff, Nat.reduceMul, Nat.reducePow, Nat.reduceLT, Int.reduceBEq, Int.reduceBNe, Int.reduceAdd, Int.reduceSub, Int.reduceMul, Int.reduceGT, Int.reduceGE, decS, Int.reduceNe, Int.reduceEq]
  simp -implicitDefEqProofs (maxSteps := 500000) (disch := first | decide | omega) only [↓preS, ↓reduceIte, allS, Nat.reduceBEq, Nat.reduceAdd, Nat.reduceEqDiff, reduceIte, Int.reduceToNat, Int.reduceLE, Int.reduceLT, Nat.reduceLeDiff, Nat.reduceMul, Nat.reducePow, Nat.reduceLT, Int.reduceBEq, Int.reduceBNe, Int.reduceAdd, Int.reduceSub, Int.reduceMul, Int.reduceGT, Int.reduceGE, decS, Int.reduceNe, Int.reduceEq]
  have ht := treeOf_mem shape
  obtain ⟨ht1, ht2, ht3⟩ := trees_len _ ht
  obtain ⟨k1, k2, k3, k4⟩ := kids_of (trees_kids _ ht)
  refine acK_new (good_ok shape ns (by omega)) rfl rfl ?_
  rintro y G ⟨us, cs, hg, rfl, rfl⟩
  have hpa := qsG_path (treeOf shape) us cs
  have hqo := qsG_ok (labs_len shape) hg
  have hql := qsG_len (treeOf shape) us cs
  generalize qsG (treeOf shape) (treeOf shape).length us cs = qs at hpa hqo hql
  generalize treeOf shape = tr at hpa hql ht1 ht2 ht3 k1 k2 k3 k4
  generalize labsOf shape = labs
  have hcf : AV.ren (up 0) (CONF false false labs qs) = CONF false false labs qs := rfl
  have hlf := fun p => leaf_ok false false labs qs p (by omega) hqo
  have hkf := fun p => kids_ok false false labs qs p (by omega) hqo
  simp only [leafP, kidsS_eq, anyS_eq, hpa] at hlf hkf
  unfold CONF at hlf hkf
  simp -implicitDefEqProofs (maxSteps := 500000) (disch := first | decide | omega) only [↓preS, ↓reduceIte, allS, Nat.reduceBEq, Nat.reduceAdd, Nat.reduceEqDiff, reduceIte, Int.reduceToNat, Int.reduceLE, Int.reduceLT, Nat.reduceLeDiff, Nat.reduceMul, Nat.reducePow, Nat.reduceLT, Int.reduceBEq, Int.reduceBNe, Int.reduceAdd, Int.reduceSub, Int.reduceMul, Int.reduceGT, Int.reduceGE, decS, Int.reduceNe, Int.reduceEq, AV.ren, AO.ren, up, hcf, fillOk, fillAV]
  unfold CONF
  simp -implicitDefEqProofs (maxSteps := 500000) (disch := first | decide | omega) only [↓preS, ↓reduceIte, allS, Nat.reduceBEq, Nat.reduceAdd, Nat.reduceEqDiff, reduceIte, Int.reduceToNat, Int.reduceLE, Int.reduceLT, Nat.reduceLeDiff, Nat.reduceMul, Nat.reducePow, Nat.reduceLT, Int.reduceBEq, Int.reduceBNe, Int.reduceAdd, Int.reduceSub, Int.reduceMul, Int.reduceGT, Int.reduceGE, decS, Int.reduceNe, Int.reduceEq]
  unfold cc8L1
  simp -implicitDefEqProofs (maxSteps := 500000) (disch := first | decide | omega) only [↓preS, ↓reduceIte, allS, Nat.reduceBEq, Nat.reduceAdd, Nat.reduceEqDiff, reduceIte, Int.reduceToNat, Int.reduceLE, Int.reduceLT, Nat.reduceLeDiff, Nat.reduceMul, Nat.reducePow, Nat.reduceLT, Int.reduceBEq, Int.reduceBNe, Int.reduceAdd, Int.reduceSub, Int.reduceMul, Int.reduceGT, Int.reduceGE, decS, Int.reduceNe, Int.reduceEq]
  refine aw_loopS (σ := Nat) (fun i => ⟨[(5, .ref 0 0 0), (6, .int .i64 (kn tr i : Int)), (7, .int .i64 (i : Int))], [.box [.sl false 1 (labs.map AV.str), .sl false 3 (qs.map QUE)]]⟩) (fun i => i ≤ qs.length) (fun i => qs.length - i) 0 (.inl rfl) (by omega) ?_
  intro i hi
  unfold cc8l1
  have hle := kn_le tr i
  have hle2 : i * tr.length ≤ 7 * 7 := Nat.mul_le_mul (by omega) ht1
  by_cases hil : i < qs.length
  · have hg : qs.getD i default = qs[i] := by simp [hil]
    have hil2 : i < tr.length := by omega
    have hx := hqo _ (List.getElem_mem hil)
    have hpi : qs[i].path = tr[i] := by subst hpa; simp
    have hp : qs[i].path ∈ tr := by rw [hpi]; exact List.getElem_mem _
    have hks := hkf qs[i].path
    have hlv := hlf qs[i].path
    have hany : tr.any (· == qs[i].path) = true := List.any_eq_true.2 ⟨_, hp, by simp⟩
    rw [hany, Bool.true_and] at hlv
    have k5 := k1 _ hp
    have hs := kn_succ hil2
    rw [← hpi] at hs
    have hkm : ∀ j (h : j < (kidsS qs[i].path tr).length), (kidsS qs[i].path tr)[j].length ≤ 20 := fun j h => ht3 _ ((List.mem_filter.1 (List.getElem_mem h)).1)
    have hkl : (kidsS qs[i].path tr).length ≤ tr.length := List.length_filter_le _ _
    generalize kidsS qs[i].path tr = ks at hks hlv k5 hs hkm hkl
    simp -implicitDefEqProofs (maxSteps := 500000) (disch := first | decide | omega) only [↓preS, ↓reduceIte, allS, Nat.reduceBEq, Nat.reduceAdd, Nat.reduceEqDiff, reduceIte, Int.reduceToNat, Int.reduceLE, Int.reduceLT, Nat.reduceLeDiff, Nat.reduceMul, Nat.reducePow, Nat.reduceLT, Int.reduceBEq, Int.reduceBNe, Int.reduceAdd, Int.reduceSub, Int.reduceMul, Int.reduceGT, Int.reduceGE, decS, Int.reduceNe, Int.reduceEq, queS, hg, List.append_nil]
    refine ⟨by omega, by omega, ?_⟩
    refine acK_of (FCall.of (lent := false) (hks) (.refl rfl) rfl (by simp)) ?_
    simp -implicitDefEqProofs (maxSteps := 500000) (disch := first | decide | omega) only [↓preS, ↓reduceIte, allS, Nat.reduceBEq, Nat.reduceAdd, Nat.reduceEqDiff, reduceIte, Int.reduceToNat, Int.reduceLE, Int.reduceLT, Nat.reduceLeDiff, Nat.reduceMul, Nat.reducePow, Nat.reduceLT, Int.reduceBEq, Int.reduceBNe, Int.reduceAdd, Int.reduceSub, Int.reduceMul, Int.reduceGT, Int.reduceGE, decS, Int.reduceNe, Int.reduceEq, queS, hg, List.append_nil]
    unfold cc8L0
    simp -implicitDefEqProofs (maxSteps := 500000) (disch := first | decide | omega) only [↓preS, ↓reduceIte, allS, Nat.reduceBEq, Nat.reduceAdd, Nat.reduceEqDiff, reduceIte, Int.reduceToNat, Int.reduceLE, Int.reduceLT, Nat.reduceLeDiff, Nat.reduceMul, Nat.reducePow, Nat.reduceLT, Int.reduceBEq, Int.reduceBNe, Int.reduceAdd, Int.reduceSub, Int.reduceMul, Int.reduceGT, Int.reduceGE, decS, Int.reduceNe, Int.reduceEq]
    refine aw_loopS (σ := Nat) (fun j => ⟨[(5, .ref 0 0 0), (6, .int .i64 (kn tr (i + 1) : Int)), (7, .int .i64 (i : Int)), (8, .sl false 1 (ks.map AV.str)), (9, .int .i64 (j : Int))], [.box [.sl false 1 (labs.map AV.str), .sl false 3 (qs.map QUE)]]⟩) (fun j => j ≤ ks.length) (fun j => ks.length - j) 0 (.inl (by rw [hs]; rfl)) (by omega) ?_
    intro j hj
    unfold cc8l0
    by_cases hjl : j < ks.length
    · have hgj : ks.getD j default = ks[j] := by simp [hjl]
      have hlj := hkm j hjl
      have hu := up_ok ks[j] (by omega)
      obtain ⟨k6, k7, k8⟩ := k5 j hjl
      generalize upL ks[j] = ul at hu k6 k7
      have e1 : (ul.getD 1 default == qs[i].path) = true := by rw [k7]; simp
      have e3 : 0 < j → ((j : Int) - 1).toNat = j - 1 := by omega
      simp -implicitDefEqProofs (maxSteps := 500000) (disch := first | decide | omega) only [↓preS, ↓reduceIte, allS, Nat.reduceBEq, Nat.reduceAdd, Nat.reduceEqDiff, reduceIte, Int.reduceToNat, Int.reduceLE, Int.reduceLT, Nat.reduceLeDiff, Nat.reduceMul, Nat.reducePow, Nat.reduceLT, Int.reduceBEq, Int.reduceBNe, Int.reduceAdd, Int.reduceSub, Int.reduceMul, Int.reduceGT, Int.reduceGE, decS, Int.reduceNe, Int.reduceEq, queS, hg, hgj, List.append_nil]
      refine ⟨by omega, by omega, ?_⟩
      refine acK_of (FCall.of (lent := false) (hu) (.refl rfl) rfl (by simp)) ?_
      by_cases h0 : 0 < j
      · have e3 := e3 h0
        have k8 := k8 h0
        simp -implicitDefEqProofs (maxSteps := 500000) (disch := first | decide | omega) only [↓preS, ↓reduceIte, allS, Nat.reduceBEq, Nat.reduceAdd, Nat.reduceEqDiff, reduceIte, Int.reduceToNat, Int.reduceLE, Int.reduceLT, Nat.reduceLeDiff, Nat.reduceMul, Nat.reducePow, Nat.reduceLT, Int.reduceBEq, Int.reduceBNe, Int.reduceAdd, Int.reduceSub, Int.reduceMul, Int.reduceGT, Int.reduceGE, decS, Int.reduceNe, Int.reduceEq, queS, hg, hgj, List.append_nil, e1, e3, k8, Bool.not_true]
        exact ⟨by omega, by omega, by omega, by omega, by omega, by omega, by omega, j + 1, .inl rfl, by omega, by omega⟩
      · simp -implicitDefEqProofs (maxSteps := 500000) (disch := first | decide | omega) only [↓preS, ↓reduceIte, allS, Nat.reduceBEq, Nat.reduceAdd, Nat.reduceEqDiff, reduceIte, Int.reduceToNat, Int.reduceLE, Int.reduceLT, Nat.reduceLeDiff, Nat.reduceMul, Nat.reducePow, Nat.reduceLT, Int.reduceBEq, Int.reduceBNe, Int.reduceAdd, Int.reduceSub, Int.reduceMul, Int.reduceGT, Int.reduceGE, decS, Int.reduceNe, Int.reduceEq, queS, hg, hgj, List.append_nil, e1, Bool.not_true]
        exact ⟨by omega, by omega, by omega, j + 1, .inl rfl, by omega, by omega⟩
    · have hb : (((ks.length : Int) == 0)) = ks.isEmpty := by
        cases ks with
        | nil => rfl
        | cons a l =>
          simp only [List.isEmpty_cons, List.length_cons]
          rw [beq_eq_false_iff_ne]
          omega
      simp -implicitDefEqProofs (maxSteps := 500000) (disch := first | decide | omega) only [↓preS, ↓reduceIte, allS, Nat.reduceBEq, Nat.reduceAdd, Nat.reduceEqDiff, reduceIte, Int.reduceToNat, Int.reduceLE, Int.reduceLT, Nat.reduceLeDiff, Nat.reduceMul, Nat.reducePow, Nat.reduceLT, Int.reduceBEq, Int.reduceBNe, Int.reduceAdd, Int.reduceSub, Int.reduceMul, Int.reduceGT, Int.reduceGE, decS, Int.reduceNe, Int.reduceEq, queS, hg, List.append_nil, hb]
      refine ⟨by omega, by omega, ?_⟩
      refine acK_of (FCall.of (lent := false) (hlv) (.refl rfl) rfl (by simp)) ?_
      generalize ks.isEmpty = be
      cases be <;> (
        simp -implicitDefEqProofs (maxSteps := 500000) (disch := first | decide | omega) only [↓preS, ↓reduceIte, allS, Nat.reduceBEq, Nat.reduceAdd, Nat.reduceEqDiff, reduceIte, Int.reduceToNat, Int.reduceLE, Int.reduceLT, Nat.reduceLeDiff, Nat.reduceMul, Nat.reducePow, Nat.reduceLT, Int.reduceBEq, Int.reduceBNe, Int.reduceAdd, Int.reduceSub, Int.reduceMul, Int.reduceGT, Int.reduceGE, decS, Int.reduceNe, Int.reduceEq]
        exact ⟨i + 1, .inl rfl, by omega, by omega⟩)
  · have hi2 : i = tr.length := by omega
    subst hi2
    rw [k2] at *
    have hn := hlf [110, 111, 98, 111, 100, 121]
    rw [k3, Bool.false_and] at hn
    have hz := hkf []
    rw [k4] at hz
    simp -implicitDefEqProofs (maxSteps := 500000) (disch := first | decide | omega) only [↓preS, ↓reduceIte, allS, Nat.reduceBEq, Nat.reduceAdd, Nat.reduceEqDiff, reduceIte, Int.reduceToNat, Int.reduceLE, Int.reduceLT, Nat.reduceLeDiff, Nat.reduceMul, Nat.reducePow, Nat.reduceLT, Int.reduceBEq, Int.reduceBNe, Int.reduceAdd, Int.reduceSub, Int.reduceMul, Int.reduceGT, Int.reduceGE, decS, Int.reduceNe, Int.reduceEq]
    refine acK_of (FCall.of (lent := false) (hn) (.refl rfl) rfl (by simp)) ?_
    simp -implicitDefEqProofs (maxSteps := 500000) (disch := first | decide | omega) only [↓preS, ↓reduceIte, allS, Nat.reduceBEq, Nat.reduceAdd, Nat.reduceEqDiff, reduceIte, Int.reduceToNat, Int.reduceLE, Int.reduceLT, Nat.reduceLeDiff, Nat.reduceMul, Nat.reducePow, Nat.reduceLT, Int.reduceBEq, Int.reduceBNe, Int.reduceAdd, Int.reduceSub, Int.reduceMul, Int.reduceGT, Int.reduceGE, decS, Int.reduceNe, Int.reduceEq]
    refine acK_of (FCall.of (lent := false) (hz) (.refl rfl) rfl (by simp)) ?_
    simp -implicitDefEqProofs (maxSteps := 500000) (disch := first | decide | omega) only [↓preS, ↓reduceIte, allS, Nat.reduceBEq, Nat.reduceAdd, Nat.reduceEqDiff, reduceIte, Int.reduceToNat, Int.reduceLE, Int.reduceLT, Nat.reduceLeDiff, Nat.reduceMul, Nat.reducePow, Nat.reduceLT, Int.reduceBEq, Int.reduceBNe, Int.reduceAdd, Int.reduceSub, Int.reduceMul, Int.reduceGT, Int.reduceGE, decS, Int.reduceNe, Int.reduceEq]
end Go.Proofs.YtcplpegahpmnjaaDoor
