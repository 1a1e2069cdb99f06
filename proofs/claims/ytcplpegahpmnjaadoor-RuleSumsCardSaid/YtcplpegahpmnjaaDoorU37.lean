/- What functions of the program compute. No condition. -/
import Derived.Test.YtcplpegahpmnjaaDoorU36
import Derived.Test.YtcplpegahpmnjaaDoorR5dCode
set_option linter.unusedSimpArgs false
set_option linter.unusedVariables false
namespace Go.Proofs.YtcplpegahpmnjaaDoor
open Go Go.Ab
theorem mm_max1 {a : Int} {K : AV → Prop} : mmK true .i64 a [.int .i64 1] K = K (.int .i64 (if a < 1 then 1 else a)) := by
  show (IntKind.i64 = IntKind.i64 ∧ _) = _
  rw [eq_self_iff_true, true_and]
  rfl
theorem _root_.Go.Ab.SemSub.at_ {g t : Nat} {y y1 : AV} {G G1 : List AO} (h : SemSub g ⟨[(0, y)], G⟩ ⟨[(0, y1)], G1⟩) : SemSub g ⟨[(t, y)], G⟩ ⟨[(t, y1)], G1⟩ := by
  intro E m0 hg hG hm
  obtain ⟨E1, h1, h2, h3, h4⟩ := h E m0 hg hG hm
  refine ⟨E1, h1, h2, fun q x hx => ?_, h4⟩
  simp only at hx ⊢
  by_cases hq : t = q
  · subst hq
    have := h3 0 x (by simpa [Regs.get] using hx)
    simpa [Regs.get] using this
  · simp only [Regs.get, hq, if_false]
    exact .top
theorem tree_paths {t : List (List UInt8)} (h : t ∈ trees) : pathsP true [] [] t = 0 := by rw [pathsN_eq]; exact trees_paths t h
theorem sums_end {t : List (List UInt8)} (htr : t ∈ trees) (h7 : 1 ≤ t.length ∧ t.length ≤ 7) {labs : List (List UInt8)} (hlo : LabOk labs) {r m l : Nat} {us : Nat → Int} {cs : Nat → List Cap} (hlen : ∀ w, w < t.length → (cs w).length = labs.length)
    (hsum : sumsP labs.length (qsG t t.length us (turnC cs m l)) = 13) (hfine : ∀ q ∈ qsG t t.length us (turnC cs m l), QFine labs.length q ∧ ∀ c ∈ q.caps, 0 ≤ c.least ∧ c.least ≤ 10000) :
    tidyK 0 (thenK (awK Tryd.prog (.reg [⟨some 63, .call 12 [.tmp 62], none⟩, ⟨some 64, .bin .eql (.tmp 63) (.const (.int .i64 13)), none⟩, ⟨some 8, .mv (.tmp 64), none⟩] false [8] (some [8]))
      (thenK (awK Tryd.prog .ret (retQ [8] fun y _ => y = .bool true)) (retQ [8] fun y _ => y = .bool true))) (thenK (awK Tryd.prog .ret (retQ [8] fun y _ => y = .bool true)) (retQ [8] fun y _ => y = .bool true))) .normal
      ⟨[(62, .agg [.sl false 1 (labs.map AV.str), .own 2 3 0 t.length])], GoodH t.length t labs r us (turnC cs m l) ++ [.box [.sl false 1 (labs.map AV.str), .own 2 3 0 t.length]]⟩ := by
  have hf := treeF (trees_fine _ htr)
  obtain ⟨h1, h2, h3⟩ := trees_len _ htr
  have hne : labs ≠ [] := is_ls hlo
  have hq : ∀ q ∈ qsG t t.length us (turnC cs m l), QSum labs.length q := fun q hq => by
    obtain ⟨h4, h5⟩ := hfine q hq
    have hll := hlo.len
    refine ⟨⟨?_, ?_, ?_⟩, h4.len, h5⟩
    · have : q.path ∈ t := by
        rw [← qsG_path t us (turnC cs m l)]
        exact List.mem_map.2 ⟨q, hq, rfl⟩
      have := h3 _ this
      omega
    · intro h
      have := h4.len
      rw [h] at this
      exact hne (List.length_eq_zero_iff.1 this.symm)
    · have := h4.len
      omega
  have hql := qsG_len t us (turnC cs m l)
  have c := check_ok false false labs (qsG t t.length us (turnC cs m l)) hlo (by omega) (fun h => by rw [h] at hql; simp at hql; omega) (by
    rw [List.getD_eq_getElem?_getD, qsG_get (show 0 < t.length by omega)]
    exact hf.root) hq
  have hp := queuesP_fine (nl := labs.length) (qsG t t.length us (turnC cs m l)) true [] [] fun q h => (hfine q h).1
  rw [qsG_path, tree_paths htr] at hp
  rw [hp, hsum] at c
  simp only [ne_eq, not_true_eq_false, if_false] at c
  have hs := sem_seal (g := 0) (q := 2) (qs := nqG t t.length us (turnC cs m l)) (rest := List.replicate r AV.any) (a := .sl false 1 (labs.map AV.str)) (G := GoodH t.length t labs r us (turnC cs m l) ++ [.box [.sl false 1 (labs.map AV.str), .own 2 3 0 t.length]]) (by
    rw [nq_cells _ _ labs.length us _ (fun w hw => by rw [turn_len]; exact hlen w hw)]
    rfl) (fun x hx => by
      obtain ⟨g1, g2⟩ := nq_get t t.length 0 r labs us (turnC cs m l) x hx
      refine ⟨?_, g2⟩
      rw [List.getElem?_append_left (List.getElem?_eq_some_iff.1 g1).1]
      exact g1) (nq_nodup _ _ _ _) rfl
  have hnl : (nqG t t.length us (turnC cs m l)).length = t.length := by simp [nqG]
  rw [hnl, nq_rows] at hs
  refine tidyK_of _ (.inr (.inr hs.at_)) ?_
  generalize (deadS _ _).set 2 _ = HH
  unfold CONF at c
  simp -implicitDefEqProofs (maxSteps := 500000) (disch := first | decide | omega) only [↓preS, allS, decS, simprocAttr]
  refine acK_of (FCall.of (lent := false) (c) (.refl rfl) rfl (by simp)) ?_
  simp -implicitDefEqProofs (maxSteps := 500000) (disch := first | decide | omega) only [↓preS, allS, decS, simprocAttr]
set_option maxRecDepth 20000 in
set_option maxHeartbeats 16000000 in
theorem sums_0 (labs : List (List UInt8)) (hlab : labs.length = 1 ∨ labs.length = 2) (hlo : LabOk labs) (r : Nat) (us : Nat → Int) (cs : Nat → List Cap) (hg : GoodG tree0 1 labs.length us cs) (hs : SharesF tree0 labs.length cs) (a b : Int) :
    aw Tryd.prog cd3T21 (retQ [8] fun y _ => y = .bool true) ⟨[(2, .int .i64 a), (3, .int .i64 b), (9, .ref 4 0 0)], [.box [.sl false 1 (labs.map AV.str), .own 2 3 0 1], .box [.sl false 1 (labs.map AV.str), .own 2 3 0 1], .box ([.str (psT tree0 0), .own 3 2 0 labs.length, .int .i64 (us 0)] ++ List.replicate r AV.any), .arr 2 ((cs 0).map CAP), .box [.sl false 1 (labs.map AV.str), .own 2 3 0 1]]⟩ := by
  have ht : tree0 ∈ trees := by simp [trees]
  have hf := treeF (trees_fine _ ht)
  have c1 := within_ok a 1 (by omega) (by omega)
  have w1 := win_rng a 1 (by omega)
  generalize win a 1 = m0 at c1 w1
  obtain ⟨m, rfl⟩ : ∃ m : Nat, m0 = (m : Int) := ⟨m0.toNat, by omega⟩
  have c2 := within_ok b labs.length (by omega) (by omega)
  have w2 := win_rng b labs.length (by omega)
  generalize win b labs.length = l0 at c2 w2
  obtain ⟨l, rfl⟩ : ∃ l : Nat, l0 = (l : Int) := ⟨l0.toNat, by omega⟩
  have hm : m < tree0.length := by show m < 1; omega
  have hl : l < labs.length := by omega
  have hsum := turned_sums (us := us) hf hs hm hl
  have hfine := turned_fine (t := tree0) (us := us) (fun q hq => hg.usr q hq) hs hm hl
  have hlen := hs.len m hm
  have hr := hs.rng m hm l hl
  unfold cd3T21
  simp -implicitDefEqProofs (maxSteps := 500000) (disch := first | decide | omega) only [↓preS, allS, decS, simprocAttr]
  refine acK_of (FCall.of (lent := false) (c1) (.refl rfl) rfl (by simp)) ?_
  simp -implicitDefEqProofs (maxSteps := 500000) (disch := first | decide | omega) only [↓preS, allS, decS, simprocAttr]
  refine acK_of (FCall.of (lent := false) (c2) (.refl rfl) rfl (by simp)) ?_
  rcases (by omega : m = 0) with rfl
  · simp -implicitDefEqProofs (maxSteps := 500000) (disch := first | decide | omega) only [↓preS, allS, decS, simprocAttr, capS]
    refine ⟨by omega, by omega, by omega, ?_⟩
    by_cases h0 : ((cs 0).getD l default).least = 0
    · have hgs : ∀ x : Cap, ((cs 0).set l x).getD l default = x := fun x => by rw [List.getD_eq_getElem?_getD, List.getElem?_set_self (by omega)]; rfl
      simp -implicitDefEqProofs (maxSteps := 500000) (disch := first | decide | omega) only [↓preS, allS, decS, simprocAttr, capS, h0, mm_max1, List.set_set, List.length_set, hgs]
      repeat (refine And.intro (by omega) ?_)
      have hT : (cs 0).set l ⟨1, if ((cs 0).getD l default).most < 1 then 1 else ((cs 0).getD l default).most⟩ = turnC cs 0 l 0 := by
        unfold turnC
        rw [if_pos rfl]
        unfold turn lv
        rw [if_pos h0]
      rw [hT]
      show tidyK 0 _ .normal ⟨[(62, .agg [.sl false 1 (labs.map AV.str), .own 2 3 0 1])], GoodH 1 tree0 labs r us (turnC cs 0 l) ++ [.box [.sl false 1 (labs.map AV.str), .own 2 3 0 1]]⟩
      exact sums_end (t := tree0) (by decide) (by decide) hlo hs.len hsum hfine
    · have hwr : IntKind.i64.wrap (((cs 0).getD l default).least - 1) = ((cs 0).getD l default).least - 1 := wrap_i64 (by unfold lv at hr; omega) (by unfold lv at hr; omega)
      simp -implicitDefEqProofs (maxSteps := 500000) (disch := first | decide | omega) only [↓preS, allS, decS, simprocAttr, capS, h0, hwr]
      repeat (refine And.intro (by omega) ?_)
      have hT : (cs 0).set l ⟨((cs 0).getD l default).least - 1, ((cs 0).getD l default).most⟩ = turnC cs 0 l 0 := by
        unfold turnC
        rw [if_pos rfl]
        unfold turn lv
        rw [if_neg h0]
      rw [hT]
      show tidyK 0 _ .normal ⟨[(62, .agg [.sl false 1 (labs.map AV.str), .own 2 3 0 1])], GoodH 1 tree0 labs r us (turnC cs 0 l) ++ [.box [.sl false 1 (labs.map AV.str), .own 2 3 0 1]]⟩
      exact sums_end (t := tree0) (by decide) (by decide) hlo hs.len hsum hfine
set_option maxRecDepth 20000 in
set_option maxHeartbeats 16000000 in
theorem sums_1 (labs : List (List UInt8)) (hlab : labs.length = 1 ∨ labs.length = 2) (hlo : LabOk labs) (r : Nat) (us : Nat → Int) (cs : Nat → List Cap) (hg : GoodG tree1 3 labs.length us cs) (hs : SharesF tree1 labs.length cs) (a b : Int) :
    aw Tryd.prog cd3T21 (retQ [8] fun y _ => y = .bool true) ⟨[(2, .int .i64 a), (3, .int .i64 b), (9, .ref 6 0 0)], [.box [.sl false 1 (labs.map AV.str), .own 2 3 0 3], .box [.sl false 1 (labs.map AV.str), .own 2 3 0 3], .box ([.str (psT tree1 0), .own 3 2 0 labs.length, .int .i64 (us 0), .str (psT tree1 1), .own 4 2 0 labs.length, .int .i64 (us 1), .str (psT tree1 2), .own 5 2 0 labs.length, .int .i64 (us 2)] ++ List.replicate r AV.any), .arr 2 ((cs 0).map CAP), .arr 2 ((cs 1).map CAP), .arr 2 ((cs 2).map CAP), .box [.sl false 1 (labs.map AV.str), .own 2 3 0 3]]⟩ := by
  have ht : tree1 ∈ trees := by simp [trees]
  have hf := treeF (trees_fine _ ht)
  have c1 := within_ok a 3 (by omega) (by omega)
  have w1 := win_rng a 3 (by omega)
  generalize win a 3 = m0 at c1 w1
  obtain ⟨m, rfl⟩ : ∃ m : Nat, m0 = (m : Int) := ⟨m0.toNat, by omega⟩
  have c2 := within_ok b labs.length (by omega) (by omega)
  have w2 := win_rng b labs.length (by omega)
  generalize win b labs.length = l0 at c2 w2
  obtain ⟨l, rfl⟩ : ∃ l : Nat, l0 = (l : Int) := ⟨l0.toNat, by omega⟩
  have hm : m < tree1.length := by show m < 3; omega
  have hl : l < labs.length := by omega
  have hsum := turned_sums (us := us) hf hs hm hl
  have hfine := turned_fine (t := tree1) (us := us) (fun q hq => hg.usr q hq) hs hm hl
  have hlen := hs.len m hm
  have hr := hs.rng m hm l hl
  unfold cd3T21
  simp -implicitDefEqProofs (maxSteps := 500000) (disch := first | decide | omega) only [↓preS, allS, decS, simprocAttr]
  refine acK_of (FCall.of (lent := false) (c1) (.refl rfl) rfl (by simp)) ?_
  simp -implicitDefEqProofs (maxSteps := 500000) (disch := first | decide | omega) only [↓preS, allS, decS, simprocAttr]
  refine acK_of (FCall.of (lent := false) (c2) (.refl rfl) rfl (by simp)) ?_
  rcases (by omega : m = 0 ∨ m = 1 ∨ m = 2) with rfl | rfl | rfl
  · simp -implicitDefEqProofs (maxSteps := 500000) (disch := first | decide | omega) only [↓preS, allS, decS, simprocAttr, capS]
    refine ⟨by omega, by omega, by omega, ?_⟩
    by_cases h0 : ((cs 0).getD l default).least = 0
    · have hgs : ∀ x : Cap, ((cs 0).set l x).getD l default = x := fun x => by rw [List.getD_eq_getElem?_getD, List.getElem?_set_self (by omega)]; rfl
      simp -implicitDefEqProofs (maxSteps := 500000) (disch := first | decide | omega) only [↓preS, allS, decS, simprocAttr, capS, h0, mm_max1, List.set_set, List.length_set, hgs]
      repeat (refine And.intro (by omega) ?_)
      have hT : (cs 0).set l ⟨1, if ((cs 0).getD l default).most < 1 then 1 else ((cs 0).getD l default).most⟩ = turnC cs 0 l 0 := by
        unfold turnC
        rw [if_pos rfl]
        unfold turn lv
        rw [if_pos h0]
      rw [hT]
      show tidyK 0 _ .normal ⟨[(62, .agg [.sl false 1 (labs.map AV.str), .own 2 3 0 3])], GoodH 3 tree1 labs r us (turnC cs 0 l) ++ [.box [.sl false 1 (labs.map AV.str), .own 2 3 0 3]]⟩
      exact sums_end (t := tree1) (by decide) (by decide) hlo hs.len hsum hfine
    · have hwr : IntKind.i64.wrap (((cs 0).getD l default).least - 1) = ((cs 0).getD l default).least - 1 := wrap_i64 (by unfold lv at hr; omega) (by unfold lv at hr; omega)
      simp -implicitDefEqProofs (maxSteps := 500000) (disch := first | decide | omega) only [↓preS, allS, decS, simprocAttr, capS, h0, hwr]
      repeat (refine And.intro (by omega) ?_)
      have hT : (cs 0).set l ⟨((cs 0).getD l default).least - 1, ((cs 0).getD l default).most⟩ = turnC cs 0 l 0 := by
        unfold turnC
        rw [if_pos rfl]
        unfold turn lv
        rw [if_neg h0]
      rw [hT]
      show tidyK 0 _ .normal ⟨[(62, .agg [.sl false 1 (labs.map AV.str), .own 2 3 0 3])], GoodH 3 tree1 labs r us (turnC cs 0 l) ++ [.box [.sl false 1 (labs.map AV.str), .own 2 3 0 3]]⟩
      exact sums_end (t := tree1) (by decide) (by decide) hlo hs.len hsum hfine
  · simp -implicitDefEqProofs (maxSteps := 500000) (disch := first | decide | omega) only [↓preS, allS, decS, simprocAttr, capS]
    refine ⟨by omega, by omega, by omega, ?_⟩
    by_cases h0 : ((cs 1).getD l default).least = 0
    · have hgs : ∀ x : Cap, ((cs 1).set l x).getD l default = x := fun x => by rw [List.getD_eq_getElem?_getD, List.getElem?_set_self (by omega)]; rfl
      simp -implicitDefEqProofs (maxSteps := 500000) (disch := first | decide | omega) only [↓preS, allS, decS, simprocAttr, capS, h0, mm_max1, List.set_set, List.length_set, hgs]
      repeat (refine And.intro (by omega) ?_)
      have hT : (cs 1).set l ⟨1, if ((cs 1).getD l default).most < 1 then 1 else ((cs 1).getD l default).most⟩ = turnC cs 1 l 1 := by
        unfold turnC
        rw [if_pos rfl]
        unfold turn lv
        rw [if_pos h0]
      rw [hT]
      show tidyK 0 _ .normal ⟨[(62, .agg [.sl false 1 (labs.map AV.str), .own 2 3 0 3])], GoodH 3 tree1 labs r us (turnC cs 1 l) ++ [.box [.sl false 1 (labs.map AV.str), .own 2 3 0 3]]⟩
      exact sums_end (t := tree1) (by decide) (by decide) hlo hs.len hsum hfine
    · have hwr : IntKind.i64.wrap (((cs 1).getD l default).least - 1) = ((cs 1).getD l default).least - 1 := wrap_i64 (by unfold lv at hr; omega) (by unfold lv at hr; omega)
      simp -implicitDefEqProofs (maxSteps := 500000) (disch := first | decide | omega) only [↓preS, allS, decS, simprocAttr, capS, h0, hwr]
      repeat (refine And.intro (by omega) ?_)
      have hT : (cs 1).set l ⟨((cs 1).getD l default).least - 1, ((cs 1).getD l default).most⟩ = turnC cs 1 l 1 := by
        unfold turnC
        rw [if_pos rfl]
        unfold turn lv
        rw [if_neg h0]
      rw [hT]
      show tidyK 0 _ .normal ⟨[(62, .agg [.sl false 1 (labs.map AV.str), .own 2 3 0 3])], GoodH 3 tree1 labs r us (turnC cs 1 l) ++ [.box [.sl false 1 (labs.map AV.str), .own 2 3 0 3]]⟩
      exact sums_end (t := tree1) (by decide) (by decide) hlo hs.len hsum hfine
  · simp -implicitDefEqProofs (maxSteps := 500000) (disch := first | decide | omega) only [↓preS, allS, decS, simprocAttr, capS]
    refine ⟨by omega, by omega, by omega, ?_⟩
    by_cases h0 : ((cs 2).getD l default).least = 0
    · have hgs : ∀ x : Cap, ((cs 2).set l x).getD l default = x := fun x => by rw [List.getD_eq_getElem?_getD, List.getElem?_set_self (by omega)]; rfl
      simp -implicitDefEqProofs (maxSteps := 500000) (disch := first | decide | omega) only [↓preS, allS, decS, simprocAttr, capS, h0, mm_max1, List.set_set, List.length_set, hgs]
      repeat (refine And.intro (by omega) ?_)
      have hT : (cs 2).set l ⟨1, if ((cs 2).getD l default).most < 1 then 1 else ((cs 2).getD l default).most⟩ = turnC cs 2 l 2 := by
        unfold turnC
        rw [if_pos rfl]
        unfold turn lv
        rw [if_pos h0]
      rw [hT]
      show tidyK 0 _ .normal ⟨[(62, .agg [.sl false 1 (labs.map AV.str), .own 2 3 0 3])], GoodH 3 tree1 labs r us (turnC cs 2 l) ++ [.box [.sl false 1 (labs.map AV.str), .own 2 3 0 3]]⟩
      exact sums_end (t := tree1) (by decide) (by decide) hlo hs.len hsum hfine
    · have hwr : IntKind.i64.wrap (((cs 2).getD l default).least - 1) = ((cs 2).getD l default).least - 1 := wrap_i64 (by unfold lv at hr; omega) (by unfold lv at hr; omega)
      simp -implicitDefEqProofs (maxSteps := 500000) (disch := first | decide | omega) only [↓preS, allS, decS, simprocAttr, capS, h0, hwr]
      repeat (refine And.intro (by omega) ?_)
      have hT : (cs 2).set l ⟨((cs 2).getD l default).least - 1, ((cs 2).getD l default).most⟩ = turnC cs 2 l 2 := by
        unfold turnC
        rw [if_pos rfl]
        unfold turn lv
        rw [if_neg h0]
      rw [hT]
      show tidyK 0 _ .normal ⟨[(62, .agg [.sl false 1 (labs.map AV.str), .own 2 3 0 3])], GoodH 3 tree1 labs r us (turnC cs 2 l) ++ [.box [.sl false 1 (labs.map AV.str), .own 2 3 0 3]]⟩
      exact sums_end (t := tree1) (by decide) (by decide) hlo hs.len hsum hfine
set_option maxRecDepth 20000 in
set_option maxHeartbeats 16000000 in
theorem sums_2 (labs : List (List UInt8)) (hlab : labs.length = 1 ∨ labs.length = 2) (hlo : LabOk labs) (r : Nat) (us : Nat → Int) (cs : Nat → List Cap) (hg : GoodG tree2 5 labs.length us cs) (hs : SharesF tree2 labs.length cs) (a b : Int) :
    aw Tryd.prog cd3T21 (retQ [8] fun y _ => y = .bool true) ⟨[(2, .int .i64 a), (3, .int .i64 b), (9, .ref 8 0 0)], [.box [.sl false 1 (labs.map AV.str), .own 2 3 0 5], .box [.sl false 1 (labs.map AV.str), .own 2 3 0 5], .box ([.str (psT tree2 0), .own 3 2 0 labs.length, .int .i64 (us 0), .str (psT tree2 1), .own 4 2 0 labs.length, .int .i64 (us 1), .str (psT tree2 2), .own 5 2 0 labs.length, .int .i64 (us 2), .str (psT tree2 3), .own 6 2 0 labs.length, .int .i64 (us 3), .str (psT tree2 4), .own 7 2 0 labs.length, .int .i64 (us 4)] ++ List.replicate r AV.any), .arr 2 ((cs 0).map CAP), .arr 2 ((cs 1).map CAP), .arr 2 ((cs 2).map CAP), .arr 2 ((cs 3).map CAP), .arr 2 ((cs 4).map CAP), .box [.sl false 1 (labs.map AV.str), .own 2 3 0 5]]⟩ := by
  have ht : tree2 ∈ trees := by simp [trees]
  have hf := treeF (trees_fine _ ht)
  have c1 := within_ok a 5 (by omega) (by omega)
  have w1 := win_rng a 5 (by omega)
  generalize win a 5 = m0 at c1 w1
  obtain ⟨m, rfl⟩ : ∃ m : Nat, m0 = (m : Int) := ⟨m0.toNat, by omega⟩
  have c2 := within_ok b labs.length (by omega) (by omega)
  have w2 := win_rng b labs.length (by omega)
  generalize win b labs.length = l0 at c2 w2
  obtain ⟨l, rfl⟩ : ∃ l : Nat, l0 = (l : Int) := ⟨l0.toNat, by omega⟩
  have hm : m < tree2.length := by show m < 5; omega
  have hl : l < labs.length := by omega
  have hsum := turned_sums (us := us) hf hs hm hl
  have hfine := turned_fine (t := tree2) (us := us) (fun q hq => hg.usr q hq) hs hm hl
  have hlen := hs.len m hm
  have hr := hs.rng m hm l hl
  unfold cd3T21
  simp -implicitDefEqProofs (maxSteps := 500000) (disch := first | decide | omega) only [↓preS, allS, decS, simprocAttr]
  refine acK_of (FCall.of (lent := false) (c1) (.refl rfl) rfl (by simp)) ?_
  simp -implicitDefEqProofs (maxSteps := 500000) (disch := first | decide | omega) only [↓preS, allS, decS, simprocAttr]
  refine acK_of (FCall.of (lent := false) (c2) (.refl rfl) rfl (by simp)) ?_
  rcases (by omega : m = 0 ∨ m = 1 ∨ m = 2 ∨ m = 3 ∨ m = 4) with rfl | rfl | rfl | rfl | rfl
  · simp -implicitDefEqProofs (maxSteps := 500000) (disch := first | decide | omega) only [↓preS, allS, decS, simprocAttr, capS]
    refine ⟨by omega, by omega, by omega, ?_⟩
    by_cases h0 : ((cs 0).getD l default).least = 0
    · have hgs : ∀ x : Cap, ((cs 0).set l x).getD l default = x := fun x => by rw [List.getD_eq_getElem?_getD, List.getElem?_set_self (by omega)]; rfl
      simp -implicitDefEqProofs (maxSteps := 500000) (disch := first | decide | omega) only [↓preS, allS, decS, simprocAttr, capS, h0, mm_max1, List.set_set, List.length_set, hgs]
      repeat (refine And.intro (by omega) ?_)
      have hT : (cs 0).set l ⟨1, if ((cs 0).getD l default).most < 1 then 1 else ((cs 0).getD l default).most⟩ = turnC cs 0 l 0 := by
        unfold turnC
        rw [if_pos rfl]
        unfold turn lv
        rw [if_pos h0]
      rw [hT]
      show tidyK 0 _ .normal ⟨[(62, .agg [.sl false 1 (labs.map AV.str), .own 2 3 0 5])], GoodH 5 tree2 labs r us (turnC cs 0 l) ++ [.box [.sl false 1 (labs.map AV.str), .own 2 3 0 5]]⟩
      exact sums_end (t := tree2) (by decide) (by decide) hlo hs.len hsum hfine
    · have hwr : IntKind.i64.wrap (((cs 0).getD l default).least - 1) = ((cs 0).getD l default).least - 1 := wrap_i64 (by unfold lv at hr; omega) (by unfold lv at hr; omega)
      simp -implicitDefEqProofs (maxSteps := 500000) (disch := first | decide | omega) only [↓preS, allS, decS, simprocAttr, capS, h0, hwr]
      repeat (refine And.intro (by omega) ?_)
      have hT : (cs 0).set l ⟨((cs 0).getD l default).least - 1, ((cs 0).getD l default).most⟩ = turnC cs 0 l 0 := by
        unfold turnC
        rw [if_pos rfl]
        unfold turn lv
        rw [if_neg h0]
      rw [hT]
      show tidyK 0 _ .normal ⟨[(62, .agg [.sl false 1 (labs.map AV.str), .own 2 3 0 5])], GoodH 5 tree2 labs r us (turnC cs 0 l) ++ [.box [.sl false 1 (labs.map AV.str), .own 2 3 0 5]]⟩
      exact sums_end (t := tree2) (by decide) (by decide) hlo hs.len hsum hfine
  · simp -implicitDefEqProofs (maxSteps := 500000) (disch := first | decide | omega) only [↓preS, allS, decS, simprocAttr, capS]
    refine ⟨by omega, by omega, by omega, ?_⟩
    by_cases h0 : ((cs 1).getD l default).least = 0
    · have hgs : ∀ x : Cap, ((cs 1).set l x).getD l default = x := fun x => by rw [List.getD_eq_getElem?_getD, List.getElem?_set_self (by omega)]; rfl
      simp -implicitDefEqProofs (maxSteps := 500000) (disch := first | decide | omega) only [↓preS, allS, decS, simprocAttr, capS, h0, mm_max1, List.set_set, List.length_set, hgs]
      repeat (refine And.intro (by omega) ?_)
      have hT : (cs 1).set l ⟨1, if ((cs 1).getD l default).most < 1 then 1 else ((cs 1).getD l default).most⟩ = turnC cs 1 l 1 := by
        unfold turnC
        rw [if_pos rfl]
        unfold turn lv
        rw [if_pos h0]
      rw [hT]
      show tidyK 0 _ .normal ⟨[(62, .agg [.sl false 1 (labs.map AV.str), .own 2 3 0 5])], GoodH 5 tree2 labs r us (turnC cs 1 l) ++ [.box [.sl false 1 (labs.map AV.str), .own 2 3 0 5]]⟩
      exact sums_end (t := tree2) (by decide) (by decide) hlo hs.len hsum hfine
    · have hwr : IntKind.i64.wrap (((cs 1).getD l default).least - 1) = ((cs 1).getD l default).least - 1 := wrap_i64 (by unfold lv at hr; omega) (by unfold lv at hr; omega)
      simp -implicitDefEqProofs (maxSteps := 500000) (disch := first | decide | omega) only [↓preS, allS, decS, simprocAttr, capS, h0, hwr]
      repeat (refine And.intro (by omega) ?_)
      have hT : (cs 1).set l ⟨((cs 1).getD l default).least - 1, ((cs 1).getD l default).most⟩ = turnC cs 1 l 1 := by
        unfold turnC
        rw [if_pos rfl]
        unfold turn lv
        rw [if_neg h0]
      rw [hT]
      show tidyK 0 _ .normal ⟨[(62, .agg [.sl false 1 (labs.map AV.str), .own 2 3 0 5])], GoodH 5 tree2 labs r us (turnC cs 1 l) ++ [.box [.sl false 1 (labs.map AV.str), .own 2 3 0 5]]⟩
      exact sums_end (t := tree2) (by decide) (by decide) hlo hs.len hsum hfine
  · simp -implicitDefEqProofs (maxSteps := 500000) (disch := first | decide | omega) only [↓preS, allS, decS, simprocAttr, capS]
    refine ⟨by omega, by omega, by omega, ?_⟩
    by_cases h0 : ((cs 2).getD l default).least = 0
    · have hgs : ∀ x : Cap, ((cs 2).set l x).getD l default = x := fun x => by rw [List.getD_eq_getElem?_getD, List.getElem?_set_self (by omega)]; rfl
      simp -implicitDefEqProofs (maxSteps := 500000) (disch := first | decide | omega) only [↓preS, allS, decS, simprocAttr, capS, h0, mm_max1, List.set_set, List.length_set, hgs]
      repeat (refine And.intro (by omega) ?_)
      have hT : (cs 2).set l ⟨1, if ((cs 2).getD l default).most < 1 then 1 else ((cs 2).getD l default).most⟩ = turnC cs 2 l 2 := by
        unfold turnC
        rw [if_pos rfl]
        unfold turn lv
        rw [if_pos h0]
      rw [hT]
      show tidyK 0 _ .normal ⟨[(62, .agg [.sl false 1 (labs.map AV.str), .own 2 3 0 5])], GoodH 5 tree2 labs r us (turnC cs 2 l) ++ [.box [.sl false 1 (labs.map AV.str), .own 2 3 0 5]]⟩
      exact sums_end (t := tree2) (by decide) (by decide) hlo hs.len hsum hfine
    · have hwr : IntKind.i64.wrap (((cs 2).getD l default).least - 1) = ((cs 2).getD l default).least - 1 := wrap_i64 (by unfold lv at hr; omega) (by unfold lv at hr; omega)
      simp -implicitDefEqProofs (maxSteps := 500000) (disch := first | decide | omega) only [↓preS, allS, decS, simprocAttr, capS, h0, hwr]
      repeat (refine And.intro (by omega) ?_)
      have hT : (cs 2).set l ⟨((cs 2).getD l default).least - 1, ((cs 2).getD l default).most⟩ = turnC cs 2 l 2 := by
        unfold turnC
        rw [if_pos rfl]
        unfold turn lv
        rw [if_neg h0]
      rw [hT]
      show tidyK 0 _ .normal ⟨[(62, .agg [.sl false 1 (labs.map AV.str), .own 2 3 0 5])], GoodH 5 tree2 labs r us (turnC cs 2 l) ++ [.box [.sl false 1 (labs.map AV.str), .own 2 3 0 5]]⟩
      exact sums_end (t := tree2) (by decide) (by decide) hlo hs.len hsum hfine
  · simp -implicitDefEqProofs (maxSteps := 500000) (disch := first | decide | omega) only [↓preS, allS, decS, simprocAttr, capS]
    refine ⟨by omega, by omega, by omega, ?_⟩
    by_cases h0 : ((cs 3).getD l default).least = 0
    · have hgs : ∀ x : Cap, ((cs 3).set l x).getD l default = x := fun x => by rw [List.getD_eq_getElem?_getD, List.getElem?_set_self (by omega)]; rfl
      simp -implicitDefEqProofs (maxSteps := 500000) (disch := first | decide | omega) only [↓preS, allS, decS, simprocAttr, capS, h0, mm_max1, List.set_set, List.length_set, hgs]
      repeat (refine And.intro (by omega) ?_)
      have hT : (cs 3).set l ⟨1, if ((cs 3).getD l default).most < 1 then 1 else ((cs 3).getD l default).most⟩ = turnC cs 3 l 3 := by
        unfold turnC
        rw [if_pos rfl]
        unfold turn lv
        rw [if_pos h0]
      rw [hT]
      show tidyK 0 _ .normal ⟨[(62, .agg [.sl false 1 (labs.map AV.str), .own 2 3 0 5])], GoodH 5 tree2 labs r us (turnC cs 3 l) ++ [.box [.sl false 1 (labs.map AV.str), .own 2 3 0 5]]⟩
      exact sums_end (t := tree2) (by decide) (by decide) hlo hs.len hsum hfine
    · have hwr : IntKind.i64.wrap (((cs 3).getD l default).least - 1) = ((cs 3).getD l default).least - 1 := wrap_i64 (by unfold lv at hr; omega) (by unfold lv at hr; omega)
      simp -implicitDefEqProofs (maxSteps := 500000) (disch := first | decide | omega) only [↓preS, allS, decS, simprocAttr, capS, h0, hwr]
      repeat (refine And.intro (by omega) ?_)
      have hT : (cs 3).set l ⟨((cs 3).getD l default).least - 1, ((cs 3).getD l default).most⟩ = turnC cs 3 l 3 := by
        unfold turnC
        rw [if_pos rfl]
        unfold turn lv
        rw [if_neg h0]
      rw [hT]
      show tidyK 0 _ .normal ⟨[(62, .agg [.sl false 1 (labs.map AV.str), .own 2 3 0 5])], GoodH 5 tree2 labs r us (turnC cs 3 l) ++ [.box [.sl false 1 (labs.map AV.str), .own 2 3 0 5]]⟩
      exact sums_end (t := tree2) (by decide) (by decide) hlo hs.len hsum hfine
  · simp -implicitDefEqProofs (maxSteps := 500000) (disch := first | decide | omega) only [↓preS, allS, decS, simprocAttr, capS]
    refine ⟨by omega, by omega, by omega, ?_⟩
    by_cases h0 : ((cs 4).getD l default).least = 0
    · have hgs : ∀ x : Cap, ((cs 4).set l x).getD l default = x := fun x => by rw [List.getD_eq_getElem?_getD, List.getElem?_set_self (by omega)]; rfl
      simp -implicitDefEqProofs (maxSteps := 500000) (disch := first | decide | omega) only [↓preS, allS, decS, simprocAttr, capS, h0, mm_max1, List.set_set, List.length_set, hgs]
      repeat (refine And.intro (by omega) ?_)
      have hT : (cs 4).set l ⟨1, if ((cs 4).getD l default).most < 1 then 1 else ((cs 4).getD l default).most⟩ = turnC cs 4 l 4 := by
        unfold turnC
        rw [if_pos rfl]
        unfold turn lv
        rw [if_pos h0]
      rw [hT]
      show tidyK 0 _ .normal ⟨[(62, .agg [.sl false 1 (labs.map AV.str), .own 2 3 0 5])], GoodH 5 tree2 labs r us (turnC cs 4 l) ++ [.box [.sl false 1 (labs.map AV.str), .own 2 3 0 5]]⟩
      exact sums_end (t := tree2) (by decide) (by decide) hlo hs.len hsum hfine
    · have hwr : IntKind.i64.wrap (((cs 4).getD l default).least - 1) = ((cs 4).getD l default).least - 1 := wrap_i64 (by unfold lv at hr; omega) (by unfold lv at hr; omega)
      simp -implicitDefEqProofs (maxSteps := 500000) (disch := first | decide | omega) only [↓preS, allS, decS, simprocAttr, capS, h0, hwr]
      repeat (refine And.intro (by omega) ?_)
      have hT : (cs 4).set l ⟨((cs 4).getD l default).least - 1, ((cs 4).getD l default).most⟩ = turnC cs 4 l 4 := by
        unfold turnC
        rw [if_pos rfl]
        unfold turn lv
        rw [if_neg h0]
      rw [hT]
      show tidyK 0 _ .normal ⟨[(62, .agg [.sl false 1 (labs.map AV.str), .own 2 3 0 5])], GoodH 5 tree2 labs r us (turnC cs 4 l) ++ [.box [.sl false 1 (labs.map AV.str), .own 2 3 0 5]]⟩
      exact sums_end (t := tree2) (by decide) (by decide) hlo hs.len hsum hfine
set_option maxRecDepth 20000 in
set_option maxHeartbeats 16000000 in
theorem sums_3 (labs : List (List UInt8)) (hlab : labs.length = 1 ∨ labs.length = 2) (hlo : LabOk labs) (r : Nat) (us : Nat → Int) (cs : Nat → List Cap) (hg : GoodG tree3 7 labs.length us cs) (hs : SharesF tree3 labs.length cs) (a b : Int) :
    aw Tryd.prog cd3T21 (retQ [8] fun y _ => y = .bool true) ⟨[(2, .int .i64 a), (3, .int .i64 b), (9, .ref 10 0 0)], [.box [.sl false 1 (labs.map AV.str), .own 2 3 0 7], .box [.sl false 1 (labs.map AV.str), .own 2 3 0 7], .box ([.str (psT tree3 0), .own 3 2 0 labs.length, .int .i64 (us 0), .str (psT tree3 1), .own 4 2 0 labs.length, .int .i64 (us 1), .str (psT tree3 2), .own 5 2 0 labs.length, .int .i64 (us 2), .str (psT tree3 3), .own 6 2 0 labs.length, .int .i64 (us 3), .str (psT tree3 4), .own 7 2 0 labs.length, .int .i64 (us 4), .str (psT tree3 5), .own 8 2 0 labs.length, .int .i64 (us 5), .str (psT tree3 6), .own 9 2 0 labs.length, .int .i64 (us 6)] ++ List.replicate r AV.any), .arr 2 ((cs 0).map CAP), .arr 2 ((cs 1).map CAP), .arr 2 ((cs 2).map CAP), .arr 2 ((cs 3).map CAP), .arr 2 ((cs 4).map CAP), .arr 2 ((cs 5).map CAP), .arr 2 ((cs 6).map CAP), .box [.sl false 1 (labs.map AV.str), .own 2 3 0 7]]⟩ := by
  have ht : tree3 ∈ trees := by simp [trees]
  have hf := treeF (trees_fine _ ht)
  have c1 := within_ok a 7 (by omega) (by omega)
  have w1 := win_rng a 7 (by omega)
  generalize win a 7 = m0 at c1 w1
  obtain ⟨m, rfl⟩ : ∃ m : Nat, m0 = (m : Int) := ⟨m0.toNat, by omega⟩
  have c2 := within_ok b labs.length (by omega) (by omega)
  have w2 := win_rng b labs.length (by omega)
  generalize win b labs.length = l0 at c2 w2
  obtain ⟨l, rfl⟩ : ∃ l : Nat, l0 = (l : Int) := ⟨l0.toNat, by omega⟩
  have hm : m < tree3.length := by show m < 7; omega
  have hl : l < labs.length := by omega
  have hsum := turned_sums (us := us) hf hs hm hl
  have hfine := turned_fine (t := tree3) (us := us) (fun q hq => hg.usr q hq) hs hm hl
  have hlen := hs.len m hm
  have hr := hs.rng m hm l hl
  unfold cd3T21
  simp -implicitDefEqProofs (maxSteps := 500000) (disch := first | decide | omega) only [↓preS, allS, decS, simprocAttr]
  refine acK_of (FCall.of (lent := false) (c1) (.refl rfl) rfl (by simp)) ?_
  simp -implicitDefEqProofs (maxSteps := 500000) (disch := first | decide | omega) only [↓preS, allS, decS, simprocAttr]
  refine acK_of (FCall.of (lent := false) (c2) (.refl rfl) rfl (by simp)) ?_
  rcases (by omega : m = 0 ∨ m = 1 ∨ m = 2 ∨ m = 3 ∨ m = 4 ∨ m = 5 ∨ m = 6) with rfl | rfl | rfl | rfl | rfl | rfl | rfl
  · simp -implicitDefEqProofs (maxSteps := 500000) (disch := first | decide | omega) only [↓preS, allS, decS, simprocAttr, capS]
    refine ⟨by omega, by omega, by omega, ?_⟩
    by_cases h0 : ((cs 0).getD l default).least = 0
    · have hgs : ∀ x : Cap, ((cs 0).set l x).getD l default = x := fun x => by rw [List.getD_eq_getElem?_getD, List.getElem?_set_self (by omega)]; rfl
      simp -implicitDefEqProofs (maxSteps := 500000) (disch := first | decide | omega) only [↓preS, allS, decS, simprocAttr, capS, h0, mm_max1, List.set_set, List.length_set, hgs]
      repeat (refine And.intro (by omega) ?_)
      have hT : (cs 0).set l ⟨1, if ((cs 0).getD l default).most < 1 then 1 else ((cs 0).getD l default).most⟩ = turnC cs 0 l 0 := by
        unfold turnC
        rw [if_pos rfl]
        unfold turn lv
        rw [if_pos h0]
      rw [hT]
      show tidyK 0 _ .normal ⟨[(62, .agg [.sl false 1 (labs.map AV.str), .own 2 3 0 7])], GoodH 7 tree3 labs r us (turnC cs 0 l) ++ [.box [.sl false 1 (labs.map AV.str), .own 2 3 0 7]]⟩
      exact sums_end (t := tree3) (by decide) (by decide) hlo hs.len hsum hfine
    · have hwr : IntKind.i64.wrap (((cs 0).getD l default).least - 1) = ((cs 0).getD l default).least - 1 := wrap_i64 (by unfold lv at hr; omega) (by unfold lv at hr; omega)
      simp -implicitDefEqProofs (maxSteps := 500000) (disch := first | decide | omega) only [↓preS, allS, decS, simprocAttr, capS, h0, hwr]
      repeat (refine And.intro (by omega) ?_)
      have hT : (cs 0).set l ⟨((cs 0).getD l default).least - 1, ((cs 0).getD l default).most⟩ = turnC cs 0 l 0 := by
        unfold turnC
        rw [if_pos rfl]
        unfold turn lv
        rw [if_neg h0]
      rw [hT]
      show tidyK 0 _ .normal ⟨[(62, .agg [.sl false 1 (labs.map AV.str), .own 2 3 0 7])], GoodH 7 tree3 labs r us (turnC cs 0 l) ++ [.box [.sl false 1 (labs.map AV.str), .own 2 3 0 7]]⟩
      exact sums_end (t := tree3) (by decide) (by decide) hlo hs.len hsum hfine
  · simp -implicitDefEqProofs (maxSteps := 500000) (disch := first | decide | omega) only [↓preS, allS, decS, simprocAttr, capS]
    refine ⟨by omega, by omega, by omega, ?_⟩
    by_cases h0 : ((cs 1).getD l default).least = 0
    · have hgs : ∀ x : Cap, ((cs 1).set l x).getD l default = x := fun x => by rw [List.getD_eq_getElem?_getD, List.getElem?_set_self (by omega)]; rfl
      simp -implicitDefEqProofs (maxSteps := 500000) (disch := first | decide | omega) only [↓preS, allS, decS, simprocAttr, capS, h0, mm_max1, List.set_set, List.length_set, hgs]
      repeat (refine And.intro (by omega) ?_)
      have hT : (cs 1).set l ⟨1, if ((cs 1).getD l default).most < 1 then 1 else ((cs 1).getD l default).most⟩ = turnC cs 1 l 1 := by
        unfold turnC
        rw [if_pos rfl]
        unfold turn lv
        rw [if_pos h0]
      rw [hT]
      show tidyK 0 _ .normal ⟨[(62, .agg [.sl false 1 (labs.map AV.str), .own 2 3 0 7])], GoodH 7 tree3 labs r us (turnC cs 1 l) ++ [.box [.sl false 1 (labs.map AV.str), .own 2 3 0 7]]⟩
      exact sums_end (t := tree3) (by decide) (by decide) hlo hs.len hsum hfine
    · have hwr : IntKind.i64.wrap (((cs 1).getD l default).least - 1) = ((cs 1).getD l default).least - 1 := wrap_i64 (by unfold lv at hr; omega) (by unfold lv at hr; omega)
      simp -implicitDefEqProofs (maxSteps := 500000) (disch := first | decide | omega) only [↓preS, allS, decS, simprocAttr, capS, h0, hwr]
      repeat (refine And.intro (by omega) ?_)
      have hT : (cs 1).set l ⟨((cs 1).getD l default).least - 1, ((cs 1).getD l default).most⟩ = turnC cs 1 l 1 := by
        unfold turnC
        rw [if_pos rfl]
        unfold turn lv
        rw [if_neg h0]
      rw [hT]
      show tidyK 0 _ .normal ⟨[(62, .agg [.sl false 1 (labs.map AV.str), .own 2 3 0 7])], GoodH 7 tree3 labs r us (turnC cs 1 l) ++ [.box [.sl false 1 (labs.map AV.str), .own 2 3 0 7]]⟩
      exact sums_end (t := tree3) (by decide) (by decide) hlo hs.len hsum hfine
  · simp -implicitDefEqProofs (maxSteps := 500000) (disch := first | decide | omega) only [↓preS, allS, decS, simprocAttr, capS]
    refine ⟨by omega, by omega, by omega, ?_⟩
    by_cases h0 : ((cs 2).getD l default).least = 0
    · have hgs : ∀ x : Cap, ((cs 2).set l x).getD l default = x := fun x => by rw [List.getD_eq_getElem?_getD, List.getElem?_set_self (by omega)]; rfl
      simp -implicitDefEqProofs (maxSteps := 500000) (disch := first | decide | omega) only [↓preS, allS, decS, simprocAttr, capS, h0, mm_max1, List.set_set, List.length_set, hgs]
      repeat (refine And.intro (by omega) ?_)
      have hT : (cs 2).set l ⟨1, if ((cs 2).getD l default).most < 1 then 1 else ((cs 2).getD l default).most⟩ = turnC cs 2 l 2 := by
        unfold turnC
        rw [if_pos rfl]
        unfold turn lv
        rw [if_pos h0]
      rw [hT]
      show tidyK 0 _ .normal ⟨[(62, .agg [.sl false 1 (labs.map AV.str), .own 2 3 0 7])], GoodH 7 tree3 labs r us (turnC cs 2 l) ++ [.box [.sl false 1 (labs.map AV.str), .own 2 3 0 7]]⟩
      exact sums_end (t := tree3) (by decide) (by decide) hlo hs.len hsum hfine
    · have hwr : IntKind.i64.wrap (((cs 2).getD l default).least - 1) = ((cs 2).getD l default).least - 1 := wrap_i64 (by unfold lv at hr; omega) (by unfold lv at hr; omega)
      simp -implicitDefEqProofs (maxSteps := 500000) (disch := first | decide | omega) only [↓preS, allS, decS, simprocAttr, capS, h0, hwr]
      repeat (refine And.intro (by omega) ?_)
      have hT : (cs 2).set l ⟨((cs 2).getD l default).least - 1, ((cs 2).getD l default).most⟩ = turnC cs 2 l 2 := by
        unfold turnC
        rw [if_pos rfl]
        unfold turn lv
        rw [if_neg h0]
      rw [hT]
      show tidyK 0 _ .normal ⟨[(62, .agg [.sl false 1 (labs.map AV.str), .own 2 3 0 7])], GoodH 7 tree3 labs r us (turnC cs 2 l) ++ [.box [.sl false 1 (labs.map AV.str), .own 2 3 0 7]]⟩
      exact sums_end (t := tree3) (by decide) (by decide) hlo hs.len hsum hfine
  · simp -implicitDefEqProofs (maxSteps := 500000) (disch := first | decide | omega) only [↓preS, allS, decS, simprocAttr, capS]
    refine ⟨by omega, by omega, by omega, ?_⟩
    by_cases h0 : ((cs 3).getD l default).least = 0
    · have hgs : ∀ x : Cap, ((cs 3).set l x).getD l default = x := fun x => by rw [List.getD_eq_getElem?_getD, List.getElem?_set_self (by omega)]; rfl
      simp -implicitDefEqProofs (maxSteps := 500000) (disch := first | decide | omega) only [↓preS, allS, decS, simprocAttr, capS, h0, mm_max1, List.set_set, List.length_set, hgs]
      repeat (refine And.intro (by omega) ?_)
      have hT : (cs 3).set l ⟨1, if ((cs 3).getD l default).most < 1 then 1 else ((cs 3).getD l default).most⟩ = turnC cs 3 l 3 := by
        unfold turnC
        rw [if_pos rfl]
        unfold turn lv
        rw [if_pos h0]
      rw [hT]
      show tidyK 0 _ .normal ⟨[(62, .agg [.sl false 1 (labs.map AV.str), .own 2 3 0 7])], GoodH 7 tree3 labs r us (turnC cs 3 l) ++ [.box [.sl false 1 (labs.map AV.str), .own 2 3 0 7]]⟩
      exact sums_end (t := tree3) (by decide) (by decide) hlo hs.len hsum hfine
    · have hwr : IntKind.i64.wrap (((cs 3).getD l default).least - 1) = ((cs 3).getD l default).least - 1 := wrap_i64 (by unfold lv at hr; omega) (by unfold lv at hr; omega)
      simp -implicitDefEqProofs (maxSteps := 500000) (disch := first | decide | omega) only [↓preS, allS, decS, simprocAttr, capS, h0, hwr]
      repeat (refine And.intro (by omega) ?_)
      have hT : (cs 3).set l ⟨((cs 3).getD l default).least - 1, ((cs 3).getD l default).most⟩ = turnC cs 3 l 3 := by
        unfold turnC
        rw [if_pos rfl]
        unfold turn lv
        rw [if_neg h0]
      rw [hT]
      show tidyK 0 _ .normal ⟨[(62, .agg [.sl false 1 (labs.map AV.str), .own 2 3 0 7])], GoodH 7 tree3 labs r us (turnC cs 3 l) ++ [.box [.sl false 1 (labs.map AV.str), .own 2 3 0 7]]⟩
      exact sums_end (t := tree3) (by decide) (by decide) hlo hs.len hsum hfine
  · simp -implicitDefEqProofs (maxSteps := 500000) (disch := first | decide | omega) only [↓preS, allS, decS, simprocAttr, capS]
    refine ⟨by omega, by omega, by omega, ?_⟩
    by_cases h0 : ((cs 4).getD l default).least = 0
    · have hgs : ∀ x : Cap, ((cs 4).set l x).getD l default = x := fun x => by rw [List.getD_eq_getElem?_getD, List.getElem?_set_self (by omega)]; rfl
      simp -implicitDefEqProofs (maxSteps := 500000) (disch := first | decide | omega) only [↓preS, allS, decS, simprocAttr, capS, h0, mm_max1, List.set_set, List.length_set, hgs]
      repeat (refine And.intro (by omega) ?_)
      have hT : (cs 4).set l ⟨1, if ((cs 4).getD l default).most < 1 then 1 else ((cs 4).getD l default).most⟩ = turnC cs 4 l 4 := by
        unfold turnC
        rw [if_pos rfl]
        unfold turn lv
        rw [if_pos h0]
      rw [hT]
      show tidyK 0 _ .normal ⟨[(62, .agg [.sl false 1 (labs.map AV.str), .own 2 3 0 7])], GoodH 7 tree3 labs r us (turnC cs 4 l) ++ [.box [.sl false 1 (labs.map AV.str), .own 2 3 0 7]]⟩
      exact sums_end (t := tree3) (by decide) (by decide) hlo hs.len hsum hfine
    · have hwr : IntKind.i64.wrap (((cs 4).getD l default).least - 1) = ((cs 4).getD l default).least - 1 := wrap_i64 (by unfold lv at hr; omega) (by unfold lv at hr; omega)
      simp -implicitDefEqProofs (maxSteps := 500000) (disch := first | decide | omega) only [↓preS, allS, decS, simprocAttr, capS, h0, hwr]
      repeat (refine And.intro (by omega) ?_)
      have hT : (cs 4).set l ⟨((cs 4).getD l default).least - 1, ((cs 4).getD l default).most⟩ = turnC cs 4 l 4 := by
        unfold turnC
        rw [if_pos rfl]
        unfold turn lv
        rw [if_neg h0]
      rw [hT]
      show tidyK 0 _ .normal ⟨[(62, .agg [.sl false 1 (labs.map AV.str), .own 2 3 0 7])], GoodH 7 tree3 labs r us (turnC cs 4 l) ++ [.box [.sl false 1 (labs.map AV.str), .own 2 3 0 7]]⟩
      exact sums_end (t := tree3) (by decide) (by decide) hlo hs.len hsum hfine
  · simp -implicitDefEqProofs (maxSteps := 500000) (disch := first | decide | omega) only [↓preS, allS, decS, simprocAttr, capS]
    refine ⟨by omega, by omega, by omega, ?_⟩
    by_cases h0 : ((cs 5).getD l default).least = 0
    · have hgs : ∀ x : Cap, ((cs 5).set l x).getD l default = x := fun x => by rw [List.getD_eq_getElem?_getD, List.getElem?_set_self (by omega)]; rfl
      simp -implicitDefEqProofs (maxSteps := 500000) (disch := first | decide | omega) only [↓preS, allS, decS, simprocAttr, capS, h0, mm_max1, List.set_set, List.length_set, hgs]
      repeat (refine And.intro (by omega) ?_)
      have hT : (cs 5).set l ⟨1, if ((cs 5).getD l default).most < 1 then 1 else ((cs 5).getD l default).most⟩ = turnC cs 5 l 5 := by
        unfold turnC
        rw [if_pos rfl]
        unfold turn lv
        rw [if_pos h0]
      rw [hT]
      show tidyK 0 _ .normal ⟨[(62, .agg [.sl false 1 (labs.map AV.str), .own 2 3 0 7])], GoodH 7 tree3 labs r us (turnC cs 5 l) ++ [.box [.sl false 1 (labs.map AV.str), .own 2 3 0 7]]⟩
      exact sums_end (t := tree3) (by decide) (by decide) hlo hs.len hsum hfine
    · have hwr : IntKind.i64.wrap (((cs 5).getD l default).least - 1) = ((cs 5).getD l default).least - 1 := wrap_i64 (by unfold lv at hr; omega) (by unfold lv at hr; omega)
      simp -implicitDefEqProofs (maxSteps := 500000) (disch := first | decide | omega) only [↓preS, allS, decS, simprocAttr, capS, h0, hwr]
      repeat (refine And.intro (by omega) ?_)
      have hT : (cs 5).set l ⟨((cs 5).getD l default).least - 1, ((cs 5).getD l default).most⟩ = turnC cs 5 l 5 := by
        unfold turnC
        rw [if_pos rfl]
        unfold turn lv
        rw [if_neg h0]
      rw [hT]
      show tidyK 0 _ .normal ⟨[(62, .agg [.sl false 1 (labs.map AV.str), .own 2 3 0 7])], GoodH 7 tree3 labs r us (turnC cs 5 l) ++ [.box [.sl false 1 (labs.map AV.str), .own 2 3 0 7]]⟩
      exact sums_end (t := tree3) (by decide) (by decide) hlo hs.len hsum hfine
  · simp -implicitDefEqProofs (maxSteps := 500000) (disch := first | decide | omega) only [↓preS, allS, decS, simprocAttr, capS]
    refine ⟨by omega, by omega, by omega, ?_⟩
    by_cases h0 : ((cs 6).getD l default).least = 0
    · have hgs : ∀ x : Cap, ((cs 6).set l x).getD l default = x := fun x => by rw [List.getD_eq_getElem?_getD, List.getElem?_set_self (by omega)]; rfl
      simp -implicitDefEqProofs (maxSteps := 500000) (disch := first | decide | omega) only [↓preS, allS, decS, simprocAttr, capS, h0, mm_max1, List.set_set, List.length_set, hgs]
      repeat (refine And.intro (by omega) ?_)
      have hT : (cs 6).set l ⟨1, if ((cs 6).getD l default).most < 1 then 1 else ((cs 6).getD l default).most⟩ = turnC cs 6 l 6 := by
        unfold turnC
        rw [if_pos rfl]
        unfold turn lv
        rw [if_pos h0]
      rw [hT]
      show tidyK 0 _ .normal ⟨[(62, .agg [.sl false 1 (labs.map AV.str), .own 2 3 0 7])], GoodH 7 tree3 labs r us (turnC cs 6 l) ++ [.box [.sl false 1 (labs.map AV.str), .own 2 3 0 7]]⟩
      exact sums_end (t := tree3) (by decide) (by decide) hlo hs.len hsum hfine
    · have hwr : IntKind.i64.wrap (((cs 6).getD l default).least - 1) = ((cs 6).getD l default).least - 1 := wrap_i64 (by unfold lv at hr; omega) (by unfold lv at hr; omega)
      simp -implicitDefEqProofs (maxSteps := 500000) (disch := first | decide | omega) only [↓preS, allS, decS, simprocAttr, capS, h0, hwr]
      repeat (refine And.intro (by omega) ?_)
      have hT : (cs 6).set l ⟨((cs 6).getD l default).least - 1, ((cs 6).getD l default).most⟩ = turnC cs 6 l 6 := by
        unfold turnC
        rw [if_pos rfl]
        unfold turn lv
        rw [if_neg h0]
      rw [hT]
      show tidyK 0 _ .normal ⟨[(62, .agg [.sl false 1 (labs.map AV.str), .own 2 3 0 7])], GoodH 7 tree3 labs r us (turnC cs 6 l) ++ [.box [.sl false 1 (labs.map AV.str), .own 2 3 0 7]]⟩
      exact sums_end (t := tree3) (by decide) (by decide) hlo hs.len hsum hfine
set_option maxRecDepth 20000 in
set_option maxHeartbeats 16000000 in
theorem sums_4 (labs : List (List UInt8)) (hlab : labs.length = 1 ∨ labs.length = 2) (hlo : LabOk labs) (r : Nat) (us : Nat → Int) (cs : Nat → List Cap) (hg : GoodG tree4 2 labs.length us cs) (hs : SharesF tree4 labs.length cs) (a b : Int) :
    aw Tryd.prog cd3T21 (retQ [8] fun y _ => y = .bool true) ⟨[(2, .int .i64 a), (3, .int .i64 b), (9, .ref 5 0 0)], [.box [.sl false 1 (labs.map AV.str), .own 2 3 0 2], .box [.sl false 1 (labs.map AV.str), .own 2 3 0 2], .box ([.str (psT tree4 0), .own 3 2 0 labs.length, .int .i64 (us 0), .str (psT tree4 1), .own 4 2 0 labs.length, .int .i64 (us 1)] ++ List.replicate r AV.any), .arr 2 ((cs 0).map CAP), .arr 2 ((cs 1).map CAP), .box [.sl false 1 (labs.map AV.str), .own 2 3 0 2]]⟩ := by
  have ht : tree4 ∈ trees := by simp [trees]
  have hf := treeF (trees_fine _ ht)
  have c1 := within_ok a 2 (by omega) (by omega)
  have w1 := win_rng a 2 (by omega)
  generalize win a 2 = m0 at c1 w1
  obtain ⟨m, rfl⟩ : ∃ m : Nat, m0 = (m : Int) := ⟨m0.toNat, by omega⟩
  have c2 := within_ok b labs.length (by omega) (by omega)
  have w2 := win_rng b labs.length (by omega)
  generalize win b labs.length = l0 at c2 w2
  obtain ⟨l, rfl⟩ : ∃ l : Nat, l0 = (l : Int) := ⟨l0.toNat, by omega⟩
  have hm : m < tree4.length := by show m < 2; omega
  have hl : l < labs.length := by omega
  have hsum := turned_sums (us := us) hf hs hm hl
  have hfine := turned_fine (t := tree4) (us := us) (fun q hq => hg.usr q hq) hs hm hl
  have hlen := hs.len m hm
  have hr := hs.rng m hm l hl
  unfold cd3T21
  simp -implicitDefEqProofs (maxSteps := 500000) (disch := first | decide | omega) only [↓preS, allS, decS, simprocAttr]
  refine acK_of (FCall.of (lent := false) (c1) (.refl rfl) rfl (by simp)) ?_
  simp -implicitDefEqProofs (maxSteps := 500000) (disch := first | decide | omega) only [↓preS, allS, decS, simprocAttr]
  refine acK_of (FCall.of (lent := false) (c2) (.refl rfl) rfl (by simp)) ?_
  rcases (by omega : m = 0 ∨ m = 1) with rfl | rfl
  · simp -implicitDefEqProofs (maxSteps := 500000) (disch := first | decide | omega) only [↓preS, allS, decS, simprocAttr, capS]
    refine ⟨by omega, by omega, by omega, ?_⟩
    by_cases h0 : ((cs 0).getD l default).least = 0
    · have hgs : ∀ x : Cap, ((cs 0).set l x).getD l default = x := fun x => by rw [List.getD_eq_getElem?_getD, List.getElem?_set_self (by omega)]; rfl
      simp -implicitDefEqProofs (maxSteps := 500000) (disch := first | decide | omega) only [↓preS, allS, decS, simprocAttr, capS, h0, mm_max1, List.set_set, List.length_set, hgs]
      repeat (refine And.intro (by omega) ?_)
      have hT : (cs 0).set l ⟨1, if ((cs 0).getD l default).most < 1 then 1 else ((cs 0).getD l default).most⟩ = turnC cs 0 l 0 := by
        unfold turnC
        rw [if_pos rfl]
        unfold turn lv
        rw [if_pos h0]
      rw [hT]
      show tidyK 0 _ .normal ⟨[(62, .agg [.sl false 1 (labs.map AV.str), .own 2 3 0 2])], GoodH 2 tree4 labs r us (turnC cs 0 l) ++ [.box [.sl false 1 (labs.map AV.str), .own 2 3 0 2]]⟩
      exact sums_end (t := tree4) (by decide) (by decide) hlo hs.len hsum hfine
    · have hwr : IntKind.i64.wrap (((cs 0).getD l default).least - 1) = ((cs 0).getD l default).least - 1 := wrap_i64 (by unfold lv at hr; omega) (by unfold lv at hr; omega)
      simp -implicitDefEqProofs (maxSteps := 500000) (disch := first | decide | omega) only [↓preS, allS, decS, simprocAttr, capS, h0, hwr]
      repeat (refine And.intro (by omega) ?_)
      have hT : (cs 0).set l ⟨((cs 0).getD l default).least - 1, ((cs 0).getD l default).most⟩ = turnC cs 0 l 0 := by
        unfold turnC
        rw [if_pos rfl]
        unfold turn lv
        rw [if_neg h0]
      rw [hT]
      show tidyK 0 _ .normal ⟨[(62, .agg [.sl false 1 (labs.map AV.str), .own 2 3 0 2])], GoodH 2 tree4 labs r us (turnC cs 0 l) ++ [.box [.sl false 1 (labs.map AV.str), .own 2 3 0 2]]⟩
      exact sums_end (t := tree4) (by decide) (by decide) hlo hs.len hsum hfine
  · simp -implicitDefEqProofs (maxSteps := 500000) (disch := first | decide | omega) only [↓preS, allS, decS, simprocAttr, capS]
    refine ⟨by omega, by omega, by omega, ?_⟩
    by_cases h0 : ((cs 1).getD l default).least = 0
    · have hgs : ∀ x : Cap, ((cs 1).set l x).getD l default = x := fun x => by rw [List.getD_eq_getElem?_getD, List.getElem?_set_self (by omega)]; rfl
      simp -implicitDefEqProofs (maxSteps := 500000) (disch := first | decide | omega) only [↓preS, allS, decS, simprocAttr, capS, h0, mm_max1, List.set_set, List.length_set, hgs]
      repeat (refine And.intro (by omega) ?_)
      have hT : (cs 1).set l ⟨1, if ((cs 1).getD l default).most < 1 then 1 else ((cs 1).getD l default).most⟩ = turnC cs 1 l 1 := by
        unfold turnC
        rw [if_pos rfl]
        unfold turn lv
        rw [if_pos h0]
      rw [hT]
      show tidyK 0 _ .normal ⟨[(62, .agg [.sl false 1 (labs.map AV.str), .own 2 3 0 2])], GoodH 2 tree4 labs r us (turnC cs 1 l) ++ [.box [.sl false 1 (labs.map AV.str), .own 2 3 0 2]]⟩
      exact sums_end (t := tree4) (by decide) (by decide) hlo hs.len hsum hfine
    · have hwr : IntKind.i64.wrap (((cs 1).getD l default).least - 1) = ((cs 1).getD l default).least - 1 := wrap_i64 (by unfold lv at hr; omega) (by unfold lv at hr; omega)
      simp -implicitDefEqProofs (maxSteps := 500000) (disch := first | decide | omega) only [↓preS, allS, decS, simprocAttr, capS, h0, hwr]
      repeat (refine And.intro (by omega) ?_)
      have hT : (cs 1).set l ⟨((cs 1).getD l default).least - 1, ((cs 1).getD l default).most⟩ = turnC cs 1 l 1 := by
        unfold turnC
        rw [if_pos rfl]
        unfold turn lv
        rw [if_neg h0]
      rw [hT]
      show tidyK 0 _ .normal ⟨[(62, .agg [.sl false 1 (labs.map AV.str), .own 2 3 0 2])], GoodH 2 tree4 labs r us (turnC cs 1 l) ++ [.box [.sl false 1 (labs.map AV.str), .own 2 3 0 2]]⟩
      exact sums_end (t := tree4) (by decide) (by decide) hlo hs.len hsum hfine
end Go.Proofs.YtcplpegahpmnjaaDoor
