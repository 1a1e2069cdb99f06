/- What functions of the program compute. No condition. -/
import Derived.Test.YtcplpegahpmnjaaDoorU30
set_option linter.unusedSimpArgs false
set_option linter.unusedVariables false
namespace Go.Proofs.YtcplpegahpmnjaaDoor
open Go Go.Ab
theorem _root_.Go.Ab.ACall.wkArg {P : Program} {f : FuncId} {x a a' : AV} {H : List AO} {Post : AV → List AO → Prop} (h : ACall P f [x, a'] H Post) (hw : Wk3 a a') : ACall P f [x, a] H Post :=
  ⟨h.1, fun E vs hm hl hv => h.2 E vs hm hl fun k y hk => by
    match k, hk with
    | 0, hk => simp only [List.getElem?_cons_zero, Option.some.injEq] at hk; subst hk; exact hv 0 _ rfl
    | 1, hk => simp only [List.getElem?_cons_succ, List.getElem?_cons_zero, Option.some.injEq] at hk; subst hk; exact hw.vr (hv 1 _ rfl)
    | k + 2, hk => simp at hk⟩
theorem ldo_str {a : List UInt8} {l : List AV} {i : Nat} {K : AV → Prop} : ldoK 1 false i 0 (some (.arr 1 (.str a :: l))) K = (i < (AV.str a :: l).length ∧ bindV (partOf ((AV.str a :: l).getD i .top).cells 0 1 false) K) := by
  show (_ ∧ _ ∧ _ ∧ _) = _
  simp
theorem lastN_app (s b : List UInt8) (hb : ∀ x ∈ b, x ≠ dot) : ∀ m, m ≤ b.length → lastN dot (s ++ dot :: b) (s.length + 1 + m) = s.length
  | 0, _ => by
    show lastN dot (s ++ dot :: b) (s.length + 1) = _
    unfold lastN
    rw [if_pos (by simp)]
  | m + 1, h => by
    show lastN dot (s ++ dot :: b) ((s.length + 1 + m) + 1) = _
    unfold lastN
    have : (s ++ dot :: b).getD (s.length + 1 + m) 0 = b[m] := by
      rw [List.getD_eq_getElem?_getD, List.getElem?_append_right (by omega), show s.length + 1 + m - s.length = m + 1 by omega, List.getElem?_cons_succ, List.getElem?_eq_getElem (by omega)]
      rfl
    rw [this, if_neg (hb _ (List.getElem_mem _))]
    exact lastN_app s b hb m (by omega)
theorem above_app (s b : List UInt8) (hb : ∀ x ∈ b, x ≠ dot) : aboveP (s ++ dot :: b) = (s, true) := by
  have h : dotL (s ++ dot :: b) = s.length := by
    unfold dotL
    rw [show (s ++ dot :: b).length = s.length + 1 + b.length by simp; omega]
    exact lastN_app s b hb _ (Nat.le_refl _)
  unfold aboveP
  rw [h, if_neg (by omega), Int.toNat_natCast]
  simp
theorem up_app (p b : List UInt8) (hb : ∀ x ∈ b, x ≠ dot) : (upL (p ++ [46] ++ b)).length = (upL p).length + 1 := by
  have e : p ++ [46] ++ b = p ++ dot :: b := by simp [dot]
  rw [e, upL_cons (by simp), above_app p b hb]
  rfl
set_option maxRecDepth 20000 in
set_option maxHeartbeats 8000000 in
theorem ups_law (shape : Int) (l : List Int) (hl : l.length < 2 ^ 63) : ACall Tryd.prog 7 [.int .i64 shape, .sl false 1 (l.map I64)] [] fun y _ => y = .bool true := by
  refine acall_of is7 (by simp) ?_
  unfold cc7
  simp -implicitDefEqProofs (maxSteps := 500000) (disch := first | decide | omega) only [↓preS, ↓reduceIte, allS, Nat.reduceBEq, Nat.reduceAdd, Nat.reduceEqDiff, reduceIte, Int.reduceToNat, Int.reduceLE, Int.reduceLT, Nat.reduceLeDiff, Nat.reduceMul, Nat.reducePow, Nat.reduceLT, Int.reduceBEq, Int.reduceBNe, Int.reduceAdd, Int.reduceSub, Int.reduceMul, Int.reduceGT, Int.reduceGE, decS, Int.reduceNe, Int.reduceEq]
  refine acK_of (FCall.of (lent := false) (known_ok) (.refl rfl) rfl (by simp)) ?_
  simp -implicitDefEqProofs (maxSteps := 500000) (disch := first | decide | omega) only [↓preS, ↓reduceIte, allS, Nat.reduceBEq, Nat.reduceAdd, Nat.reduceEqDiff, reduceIte, Int.reduceToNat, Int.reduceLE, Int.reduceLT, Nat.reduceLeDiff, Nat.reduceMul, Nat.reducePow, Nat.reduceLT, Int.reduceBEq, Int.reduceBNe, Int.reduceAdd, Int.reduceSub, Int.reduceMul, Int.reduceGT, Int.reduceGE, decS, Int.reduceNe, Int.reduceEq]
  have ht := treeOf_mem shape
  obtain ⟨ht1, ht2, ht3⟩ := trees_len _ ht
  have htu := trees_ups _ ht
  refine acK_new ((good_ok shape [] (by simp)).wkArg (a := .nils) (.inl (.inl (.inr ⟨rfl, _, _, rfl⟩)))) rfl rfl ?_
  rintro y G ⟨us, cs, hg, rfl, rfl⟩
  have hpa := qsG_path (treeOf shape) us cs
  have hqo := qsG_ok (labs_len shape) hg
  have hql := qsG_len (treeOf shape) us cs
  generalize qsG (treeOf shape) (treeOf shape).length us cs = qs at hpa hqo hql
  generalize treeOf shape = tr at hpa hql ht1 ht2 ht3 htu
  generalize labsOf shape = labs
  have hcf : AV.ren (up 0) (CONF false false labs qs) = CONF false false labs qs := rfl
  have hfo := fun p i hi h hc => find_ok false false labs qs p (by omega) i hi h hc
  have hlf := fun p => leaf_ok false false labs qs p (by omega) hqo
  unfold CONF at hfo hlf
  simp -implicitDefEqProofs (maxSteps := 500000) (disch := first | decide | omega) only [↓preS, ↓reduceIte, allS, Nat.reduceBEq, Nat.reduceAdd, Nat.reduceEqDiff, reduceIte, Int.reduceToNat, Int.reduceLE, Int.reduceLT, Nat.reduceLeDiff, Nat.reduceMul, Nat.reducePow, Nat.reduceLT, Int.reduceBEq, Int.reduceBNe, Int.reduceAdd, Int.reduceSub, Int.reduceMul, Int.reduceGT, Int.reduceGE, decS, Int.reduceNe, Int.reduceEq, AV.ren, AO.ren, up, hcf, fillOk, fillAV]
  unfold CONF
  simp -implicitDefEqProofs (maxSteps := 500000) (disch := first | decide | omega) only [↓preS, ↓reduceIte, allS, Nat.reduceBEq, Nat.reduceAdd, Nat.reduceEqDiff, reduceIte, Int.reduceToNat, Int.reduceLE, Int.reduceLT, Nat.reduceLeDiff, Nat.reduceMul, Nat.reducePow, Nat.reduceLT, Int.reduceBEq, Int.reduceBNe, Int.reduceAdd, Int.reduceSub, Int.reduceMul, Int.reduceGT, Int.reduceGE, decS, Int.reduceNe, Int.reduceEq]
  unfold cc7L2
  simp -implicitDefEqProofs (maxSteps := 500000) (disch := first | decide | omega) only [↓preS, ↓reduceIte, allS, Nat.reduceBEq, Nat.reduceAdd, Nat.reduceEqDiff, reduceIte, Int.reduceToNat, Int.reduceLE, Int.reduceLT, Nat.reduceLeDiff, Nat.reduceMul, Nat.reducePow, Nat.reduceLT, Int.reduceBEq, Int.reduceBNe, Int.reduceAdd, Int.reduceSub, Int.reduceMul, Int.reduceGT, Int.reduceGE, decS, Int.reduceNe, Int.reduceEq]
  refine aw_loopS (σ := Nat) (fun i => ⟨[(1, .sl false 1 (l.map I64)), (5, .ref 0 0 0), (6, .int .i64 (i : Int))], [.box [.sl false 1 (labs.map AV.str), .sl false 3 (qs.map QUE)]]⟩) (fun i => i ≤ qs.length) (fun i => qs.length - i) 0 (.inl rfl) (by omega) ?_
  intro i hi
  unfold cc7l2
  by_cases hil : i < qs.length
  · have hg : qs.getD i default = qs[i] := by simp [hil]
    have hx := hqo _ (List.getElem_mem hil)
    have hp : qs[i].path ∈ tr := by rw [← hpa]; exact List.mem_map.2 ⟨_, List.getElem_mem hil, rfl⟩
    have hu := up_ok qs[i].path hx.path
    have hul := upL_len _ _ (Nat.le_refl qs[i].path.length)
    have hxp := hx.path
    obtain ⟨u1, u2, u3, u4⟩ := ups_of htu hp
    have hmem : ∀ k, k < (upL qs[i].path).length → (upL qs[i].path)[k]? = some ((upL qs[i].path).getD k default) := fun k hk => by simp [hk]
    generalize upL qs[i].path = ul at hu hul u1 u2 u3 u4 hmem
    have e1 : (ul.getD 0 default == qs[i].path) = true := by rw [u2]; simp
    have e2 : (ul.getD (ul.length - 1) default == [114, 111, 111, 116]) = true := by rw [u3]; rfl
    have e3 : ((ul.length : Int) - 1).toNat = ul.length - 1 := by omega
    simp -implicitDefEqProofs (maxSteps := 500000) (disch := first | decide | omega) only [↓preS, ↓reduceIte, allS, Nat.reduceBEq, Nat.reduceAdd, Nat.reduceEqDiff, reduceIte, Int.reduceToNat, Int.reduceLE, Int.reduceLT, Nat.reduceLeDiff, Nat.reduceMul, Nat.reducePow, Nat.reduceLT, Int.reduceBEq, Int.reduceBNe, Int.reduceAdd, Int.reduceSub, Int.reduceMul, Int.reduceGT, Int.reduceGE, decS, Int.reduceNe, Int.reduceEq, queS, hg, List.append_nil]
    refine ⟨by omega, by omega, ?_⟩
    refine acK_of (FCall.of (lent := false) (hu) (.refl rfl) rfl (by simp)) ?_
    simp -implicitDefEqProofs (maxSteps := 500000) (disch := first | decide | omega) only [↓preS, ↓reduceIte, allS, Nat.reduceBEq, Nat.reduceAdd, Nat.reduceEqDiff, reduceIte, Int.reduceToNat, Int.reduceLE, Int.reduceLT, Nat.reduceLeDiff, Nat.reduceMul, Nat.reducePow, Nat.reduceLT, Int.reduceBEq, Int.reduceBNe, Int.reduceAdd, Int.reduceSub, Int.reduceMul, Int.reduceGT, Int.reduceGE, decS, Int.reduceNe, Int.reduceEq, queS, hg, List.append_nil, e1, e2, e3, Bool.not_true]
    refine ⟨by omega, by omega, by omega, by omega, by omega, ?_⟩
    unfold cc7L1
    simp -implicitDefEqProofs (maxSteps := 500000) (disch := first | decide | omega) only [↓preS, ↓reduceIte, allS, Nat.reduceBEq, Nat.reduceAdd, Nat.reduceEqDiff, reduceIte, Int.reduceToNat, Int.reduceLE, Int.reduceLT, Nat.reduceLeDiff, Nat.reduceMul, Nat.reducePow, Nat.reduceLT, Int.reduceBEq, Int.reduceBNe, Int.reduceAdd, Int.reduceSub, Int.reduceMul, Int.reduceGT, Int.reduceGE, decS, Int.reduceNe, Int.reduceEq]
    refine aw_loopS (σ := Nat) (fun k => ⟨[(1, .sl false 1 (l.map I64)), (5, .ref 0 0 0), (6, .int .i64 (i : Int)), (7, .sl false 1 (ul.map AV.str)), (8, .int .i64 (k : Int))], [.box [.sl false 1 (labs.map AV.str), .sl false 3 (qs.map QUE)]]⟩) (fun k => 1 ≤ k ∧ k ≤ ul.length) (fun k => ul.length - k) 1 (.inl rfl) (by omega) ?_
    rintro k ⟨hk1, hk⟩
    unfold cc7l1
    by_cases hkl : k < ul.length
    · have hgk : ul.getD k default = ul[k] := by simp [hkl]
      obtain ⟨u5, u6⟩ := u4 k hk1 hkl
      rw [← hpa, ← anyS_eq] at u5
      rw [← hpa, ← kidsS_eq] at u6
      have hlk := hlf ul[k]
      have hle : leafP ul[k] qs = false := by unfold leafP; rw [u6, Bool.and_false]
      rw [hle] at hlk
      obtain ⟨f, hf, hf1⟩ : ∃ f : Nat, ∃ _ : f < qs.length, idxI (pathP ul[k]) qs = (f : Int) := by
        rcases idx_cases0 (pathP ul[k]) qs with ⟨h1, h2⟩ | ⟨i, hi, h1, h2⟩
        · rw [u5] at h2; cases h2
        · exact ⟨i, hi, h1⟩
      have hxf := hqo _ (List.getElem_mem hf)
      have hfk := hfo ul[k] f hf hf1 ⟨hxf.caps, hxf.len⟩
      simp -implicitDefEqProofs (maxSteps := 500000) (disch := first | decide | omega) only [↓preS, ↓reduceIte, allS, Nat.reduceBEq, Nat.reduceAdd, Nat.reduceEqDiff, reduceIte, Int.reduceToNat, Int.reduceLE, Int.reduceLT, Nat.reduceLeDiff, Nat.reduceMul, Nat.reducePow, Nat.reduceLT, Int.reduceBEq, Int.reduceBNe, Int.reduceAdd, Int.reduceSub, Int.reduceMul, Int.reduceGT, Int.reduceGE, decS, Int.reduceNe, Int.reduceEq, hgk, fillOk, fillAV, List.append_nil]
      repeat' first
        | omega
        | (refine acK_of (FCall.of (lent := false) (hfk) (.refl rfl) rfl (by simp)) ?_; simp -implicitDefEqProofs (maxSteps := 500000) (disch := first | decide | omega) only [↓preS, ↓reduceIte, allS, Nat.reduceBEq, Nat.reduceAdd, Nat.reduceEqDiff, reduceIte, Int.reduceToNat, Int.reduceLE, Int.reduceLT, Nat.reduceLeDiff, Nat.reduceMul, Nat.reducePow, Nat.reduceLT, Int.reduceBEq, Int.reduceBNe, Int.reduceAdd, Int.reduceSub, Int.reduceMul, Int.reduceGT, Int.reduceGE, decS, Int.reduceNe, Int.reduceEq, queS, fillOk, fillAV, hgk, List.append_nil, Bool.not_true])
        | (refine acK_of (FCall.of (lent := false) (hlk) (.refl rfl) rfl (by simp)) ?_; simp -implicitDefEqProofs (maxSteps := 500000) (disch := first | decide | omega) only [↓preS, ↓reduceIte, allS, Nat.reduceBEq, Nat.reduceAdd, Nat.reduceEqDiff, reduceIte, Int.reduceToNat, Int.reduceLE, Int.reduceLT, Nat.reduceLeDiff, Nat.reduceMul, Nat.reducePow, Nat.reduceLT, Int.reduceBEq, Int.reduceBNe, Int.reduceAdd, Int.reduceSub, Int.reduceMul, Int.reduceGT, Int.reduceGE, decS, Int.reduceNe, Int.reduceEq])
        | exact ⟨k + 1, by (refine Sub.ofL [some 0] rfl (by simp) (by decide) (by simp [partL, AO.ro, AV.ro, AV.roL, names, AO.empty, SB, U8, SI, I64, STR] <;> (try and_intros) <;> rfl) (by simp [AO.bo, AV.bo, AV.boL, names] <;> (try and_intros) <;> rfl) ?_ <;> (try simp only [List.map_cons, List.map_nil, regsL, AV.ro, AV.roL, AV.bo, AV.boL, names, get_here, get_there, Nat.reduceBEq, List.getD_cons_zero, List.getD_cons_succ, List.getD_nil, and_true, true_and, Nat.reduceLT, List.length_cons, List.length_nil, Nat.reduceAdd, decide_true, Option.isSome_some, Bool.true_or, Bool.and_self, Option.isSome_none, Bool.false_or, beq_self_eq_true, wk0_self, wk0_nils]) <;> (try and_intros) <;> (first | done | rfl | exact .inl rfl | exact .inr ⟨rfl, _, _, rfl⟩ | (simp; done) | (simp; omega) | (refine .inl ?_; simp; done) | (refine .inl ?_; simp; omega))), by omega, by omega⟩
        | apply And.intro
    · simp -implicitDefEqProofs (maxSteps := 500000) (disch := first | decide | omega) only [↓preS, ↓reduceIte, allS, Nat.reduceBEq, Nat.reduceAdd, Nat.reduceEqDiff, reduceIte, Int.reduceToNat, Int.reduceLE, Int.reduceLT, Nat.reduceLeDiff, Nat.reduceMul, Nat.reducePow, Nat.reduceLT, Int.reduceBEq, Int.reduceBNe, Int.reduceAdd, Int.reduceSub, Int.reduceMul, Int.reduceGT, Int.reduceGE, decS, Int.reduceNe, Int.reduceEq]
      exact ⟨i + 1, by (refine Sub.ofL [some 0] rfl (by simp) (by decide) (by simp [partL, AO.ro, AV.ro, AV.roL, names, AO.empty, SB, U8, SI, I64, STR] <;> (try and_intros) <;> rfl) (by simp [AO.bo, AV.bo, AV.boL, names] <;> (try and_intros) <;> rfl) ?_ <;> (try simp only [List.map_cons, List.map_nil, regsL, AV.ro, AV.roL, AV.bo, AV.boL, names, get_here, get_there, Nat.reduceBEq, List.getD_cons_zero, List.getD_cons_succ, List.getD_nil, and_true, true_and, Nat.reduceLT, List.length_cons, List.length_nil, Nat.reduceAdd, decide_true, Option.isSome_some, Bool.true_or, Bool.and_self, Option.isSome_none, Bool.false_or, beq_self_eq_true, wk0_self, wk0_nils]) <;> (try and_intros) <;> (first | done | rfl | exact .inl rfl | exact .inr ⟨rfl, _, _, rfl⟩ | (simp; done) | (simp; omega) | (refine .inl ?_; simp; done) | (refine .inl ?_; simp; omega))), by omega, by omega⟩
  · simp -implicitDefEqProofs (maxSteps := 500000) (disch := first | decide | omega) only [↓preS, ↓reduceIte, allS, Nat.reduceBEq, Nat.reduceAdd, Nat.reduceEqDiff, reduceIte, Int.reduceToNat, Int.reduceLE, Int.reduceLT, Nat.reduceLeDiff, Nat.reduceMul, Nat.reducePow, Nat.reduceLT, Int.reduceBEq, Int.reduceBNe, Int.reduceAdd, Int.reduceSub, Int.reduceMul, Int.reduceGT, Int.reduceGE, decS, Int.reduceNe, Int.reduceEq]
    unfold cc7L0
    simp -implicitDefEqProofs (maxSteps := 500000) (disch := first | decide | omega) only [↓preS, ↓reduceIte, allS, Nat.reduceBEq, Nat.reduceAdd, Nat.reduceEqDiff, reduceIte, Int.reduceToNat, Int.reduceLE, Int.reduceLT, Nat.reduceLeDiff, Nat.reduceMul, Nat.reducePow, Nat.reduceLT, Int.reduceBEq, Int.reduceBNe, Int.reduceAdd, Int.reduceSub, Int.reduceMul, Int.reduceGT, Int.reduceGE, decS, Int.reduceNe, Int.reduceEq]
    refine aw_loopS (σ := Nat × List UInt8) (fun q => ⟨[(1, .sl false 1 (l.map I64)), (11, .str q.2), (12, .int .i64 (q.1 : Int)), (13, .int .i64 (q.1 : Int))], [.box [.sl false 1 (labs.map AV.str), .sl false 3 (qs.map QUE)]]⟩) (fun q => q.1 ≤ l.length ∧ q.1 ≤ 6 ∧ q.2.length ≤ 4 + 4 * q.1 ∧ (upL q.2).length = q.1 + 1) (fun q => l.length - q.1) (0, [114, 111, 111, 116]) (.inl rfl) ⟨by simp, by simp, by simp, by rw [upN_eq 4 _ (by simp)]; decide +kernel⟩ ?_
    rintro ⟨k, p⟩ ⟨hk1, hk2, hk3, hk4⟩
    simp only at hk1 hk2 hk3 hk4 ⊢
    unfold cc7l0
    by_cases hkl : k < l.length ∧ k < 6
    · obtain ⟨hkl, hk6⟩ := hkl
      have hgk : l.getD k default = l[k] := by simp [hkl]
      have w := win_rng l[k] 3 (by omega)
      have cw := within_ok l[k] 3 (by omega) (by omega)
      generalize win l[k] 3 = x at w cw
      generalize l[k] = lk at hgk cw
      have hb : ∀ b : List UInt8, (∀ x ∈ b, x ≠ dot) → b.length ≤ 3 → ((k + 1 : Nat) ≤ l.length ∧ (k + 1 : Nat) ≤ 6 ∧ (p ++ [46] ++ b).length ≤ 4 + 4 * (k + 1) ∧ (upL (p ++ [46] ++ b)).length = (k + 1) + 1) := fun b hb hbl => ⟨by omega, by omega, by simp; omega, by rw [up_app p b hb, hk4]⟩
      have b0 := hb [97] (by decide) (by decide)
      have b1 := hb [98, 98] (by decide) (by decide)
      have b2 := hb [99, 45, 99] (by decide) (by decide)
      rcases (by omega : x = 0 ∨ x = 1 ∨ x = 2) with rfl | rfl | rfl
      all_goals (
        simp -implicitDefEqProofs (maxSteps := 500000) (disch := first | decide | omega) only [↓preS, ↓reduceIte, allS, Nat.reduceBEq, Nat.reduceAdd, Nat.reduceEqDiff, reduceIte, Int.reduceToNat, Int.reduceLE, Int.reduceLT, Nat.reduceLeDiff, Nat.reduceMul, Nat.reducePow, Nat.reduceLT, Int.reduceBEq, Int.reduceBNe, Int.reduceAdd, Int.reduceSub, Int.reduceMul, Int.reduceGT, Int.reduceGE, decS, Int.reduceNe, Int.reduceEq, hgk]
        refine ⟨by omega, by omega, by omega, ?_⟩
        refine acK_of (FCall.of (lent := false) (cw) (.refl rfl) rfl (by simp)) ?_
        simp -implicitDefEqProofs (maxSteps := 500000) (disch := first | decide | omega) only [↓preS, ↓reduceIte, allS, Nat.reduceBEq, Nat.reduceAdd, Nat.reduceEqDiff, reduceIte, Int.reduceToNat, Int.reduceLE, Int.reduceLT, Nat.reduceLeDiff, Nat.reduceMul, Nat.reducePow, Nat.reduceLT, Int.reduceBEq, Int.reduceBNe, Int.reduceAdd, Int.reduceSub, Int.reduceMul, Int.reduceGT, Int.reduceGE, decS, Int.reduceNe, Int.reduceEq, ldo_str, List.getD_cons_zero, List.getD_cons_succ, List.length_append, List.length_cons, List.length_nil]
        refine ⟨by decide, by omega, ?_⟩)
      · exact ⟨(k + 1, p ++ [46] ++ [97]), by (refine Sub.ofL [some 0] rfl (by simp) (by decide) (by simp [partL, AO.ro, AV.ro, AV.roL, names, AO.empty, SB, U8, SI, I64, STR] <;> (try and_intros) <;> rfl) (by simp [AO.bo, AV.bo, AV.boL, names] <;> (try and_intros) <;> rfl) ?_ <;> (try simp only [List.map_cons, List.map_nil, regsL, AV.ro, AV.roL, AV.bo, AV.boL, names, get_here, get_there, Nat.reduceBEq, List.getD_cons_zero, List.getD_cons_succ, List.getD_nil, and_true, true_and, Nat.reduceLT, List.length_cons, List.length_nil, Nat.reduceAdd, decide_true, Option.isSome_some, Bool.true_or, Bool.and_self, Option.isSome_none, Bool.false_or, beq_self_eq_true, wk0_self, wk0_nils]) <;> (try and_intros) <;> (first | done | rfl | exact .inl rfl | exact .inr ⟨rfl, _, _, rfl⟩ | (simp; done) | (simp; omega) | (refine .inl ?_; simp; done) | (refine .inl ?_; simp; omega))), b0, by simp only; omega⟩
      · exact ⟨(k + 1, p ++ [46] ++ [98, 98]), by (refine Sub.ofL [some 0] rfl (by simp) (by decide) (by simp [partL, AO.ro, AV.ro, AV.roL, names, AO.empty, SB, U8, SI, I64, STR] <;> (try and_intros) <;> rfl) (by simp [AO.bo, AV.bo, AV.boL, names] <;> (try and_intros) <;> rfl) ?_ <;> (try simp only [List.map_cons, List.map_nil, regsL, AV.ro, AV.roL, AV.bo, AV.boL, names, get_here, get_there, Nat.reduceBEq, List.getD_cons_zero, List.getD_cons_succ, List.getD_nil, and_true, true_and, Nat.reduceLT, List.length_cons, List.length_nil, Nat.reduceAdd, decide_true, Option.isSome_some, Bool.true_or, Bool.and_self, Option.isSome_none, Bool.false_or, beq_self_eq_true, wk0_self, wk0_nils]) <;> (try and_intros) <;> (first | done | rfl | exact .inl rfl | exact .inr ⟨rfl, _, _, rfl⟩ | (simp; done) | (simp; omega) | (refine .inl ?_; simp; done) | (refine .inl ?_; simp; omega))), b1, by simp only; omega⟩
      · exact ⟨(k + 1, p ++ [46] ++ [99, 45, 99]), by (refine Sub.ofL [some 0] rfl (by simp) (by decide) (by simp [partL, AO.ro, AV.ro, AV.roL, names, AO.empty, SB, U8, SI, I64, STR] <;> (try and_intros) <;> rfl) (by simp [AO.bo, AV.bo, AV.boL, names] <;> (try and_intros) <;> rfl) ?_ <;> (try simp only [List.map_cons, List.map_nil, regsL, AV.ro, AV.roL, AV.bo, AV.boL, names, get_here, get_there, Nat.reduceBEq, List.getD_cons_zero, List.getD_cons_succ, List.getD_nil, and_true, true_and, Nat.reduceLT, List.length_cons, List.length_nil, Nat.reduceAdd, decide_true, Option.isSome_some, Bool.true_or, Bool.and_self, Option.isSome_none, Bool.false_or, beq_self_eq_true, wk0_self, wk0_nils]) <;> (try and_intros) <;> (first | done | rfl | exact .inl rfl | exact .inr ⟨rfl, _, _, rfl⟩ | (simp; done) | (simp; omega) | (refine .inl ?_; simp; done) | (refine .inl ?_; simp; omega))), b2, by simp only; omega⟩
    · have hor : ¬ k < l.length ∨ (k < l.length ∧ ¬ k < 6) := by omega
      have cu := up_ok p (by omega)
      have cu0 := up_ok [] (by simp)
      rw [upL_nil] at cu0
      generalize upL p = up at hk4 cu
      rcases hor with h1 | ⟨h1, h2⟩ <;> (
        simp -implicitDefEqProofs (maxSteps := 500000) (disch := first | decide | omega) only [↓preS, ↓reduceIte, allS, Nat.reduceBEq, Nat.reduceAdd, Nat.reduceEqDiff, reduceIte, Int.reduceToNat, Int.reduceLE, Int.reduceLT, Nat.reduceLeDiff, Nat.reduceMul, Nat.reducePow, Nat.reduceLT, Int.reduceBEq, Int.reduceBNe, Int.reduceAdd, Int.reduceSub, Int.reduceMul, Int.reduceGT, Int.reduceGE, decS, Int.reduceNe, Int.reduceEq]
        refine acK_of (FCall.of (lent := false) (cu) (.refl rfl) rfl (by simp)) ?_
        simp -implicitDefEqProofs (maxSteps := 500000) (disch := first | decide | omega) only [↓preS, ↓reduceIte, allS, Nat.reduceBEq, Nat.reduceAdd, Nat.reduceEqDiff, reduceIte, Int.reduceToNat, Int.reduceLE, Int.reduceLT, Nat.reduceLeDiff, Nat.reduceMul, Nat.reducePow, Nat.reduceLT, Int.reduceBEq, Int.reduceBNe, Int.reduceAdd, Int.reduceSub, Int.reduceMul, Int.reduceGT, Int.reduceGE, decS, Int.reduceNe, Int.reduceEq]
        refine acK_of (FCall.of (lent := false) (cu0) (.refl rfl) rfl (by simp)) ?_
        simp -implicitDefEqProofs (maxSteps := 500000) (disch := first | decide | omega) only [↓preS, ↓reduceIte, allS, Nat.reduceBEq, Nat.reduceAdd, Nat.reduceEqDiff, reduceIte, Int.reduceToNat, Int.reduceLE, Int.reduceLT, Nat.reduceLeDiff, Nat.reduceMul, Nat.reducePow, Nat.reduceLT, Int.reduceBEq, Int.reduceBNe, Int.reduceAdd, Int.reduceSub, Int.reduceMul, Int.reduceGT, Int.reduceGE, decS, Int.reduceNe, Int.reduceEq])
end Go.Proofs.YtcplpegahpmnjaaDoor
