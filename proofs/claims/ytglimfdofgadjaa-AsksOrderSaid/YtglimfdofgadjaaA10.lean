/- What functions of the program compute. No condition. -/
import Derived.Test.YtglimfdofgadjaaA9
set_option linter.unusedSimpArgs false
set_option linter.unusedVariables false
namespace Go.Proofs.Ytglimfdofgadjaa
open Go Go.Ab

def mk (p : Int) (k : Nat) (x : Ask) : Ask := if x.prio = p then { x with missed := min (k : Int) 100 } else x
theorem mk_0 {p : Int} {x : Ask} (h : x.missed = 0) : mk p 0 x = x := by
  unfold mk
  split
  · cases x; simp at h ⊢; omega
  · rfl
theorem mk_S {p : Int} {k : Nat} {x : Ask} : mF p (mk p k x) = mk p (k + 1) x := by
  unfold mk mF
  by_cases h : x.prio = p
  · simp [h]; omega
  · simp [h]
theorem miss_mk {p : Int} {k : Nat} {l : List Ask} : xmissL p (l.map (mk p k)) = l.map (mk p (k + 1)) := by
  unfold xmissL
  rw [List.map_map]
  exact List.map_congr_left fun x _ => mk_S
theorem inv_mk {l : List Ask} (h : Inv l) (p : Int) (k : Nat) : Inv (l.map (mk p k)) := by
  refine inv_map h _ fun x hx => ?_
  obtain ⟨⟨h1, h2, h3, h4, h5, h6, h7, h8, h9, h10, h11, h12⟩, hc⟩ := h.gd x hx
  unfold mk
  split
  · exact ⟨rfl, ⟨h1, h2, h3, h4, h5, h6, h7, h8, h9, h10, by simp only; omega, by simp only; omega⟩, hc⟩
  · exact ⟨rfl, ⟨h1, h2, h3, h4, h5, h6, h7, h8, h9, h10, h11, h12⟩, hc⟩
set_option maxRecDepth 20000 in
set_option maxHeartbeats 4000000 in
theorem order_law (l : List Ask) (hl : l.length < 2 ^ 63) (prio misses : Int) : ACall Try.prog 3 [.sl false 8 (l.map ASK), .int .i64 prio, .int .i64 misses] [] fun y _ => y = .bool true := by
  refine acall_of is3 (by simp) ?_
  unfold cc3
  simp -implicitDefEqProofs (maxSteps := 500000) (disch := first | decide | omega) only [↓preS, ↓reduceIte, allS, Nat.reduceBEq, Nat.reduceAdd, Nat.reduceEqDiff, reduceIte, Int.reduceToNat, Int.reduceLE, Int.reduceLT, Nat.reduceLeDiff, Nat.reduceMul, Nat.reducePow, Nat.reduceLT, Int.reduceBEq, Int.reduceBNe, Int.reduceAdd, Int.reduceSub, Int.reduceMul, Int.reduceGT, Int.reduceGE, decS, Int.reduceNe, Int.reduceEq]
  refine acK_of (FCall.of (lent := false) (known_ok) (.refl rfl) rfl (by simp)) ?_
  simp -implicitDefEqProofs (maxSteps := 500000) (disch := first | decide | omega) only [↓preS, ↓reduceIte, allS, Nat.reduceBEq, Nat.reduceAdd, Nat.reduceEqDiff, reduceIte, Int.reduceToNat, Int.reduceLE, Int.reduceLT, Nat.reduceLeDiff, Nat.reduceMul, Nat.reducePow, Nat.reduceLT, Int.reduceBEq, Int.reduceBNe, Int.reduceAdd, Int.reduceSub, Int.reduceMul, Int.reduceGT, Int.reduceGE, decS, Int.reduceNe, Int.reduceEq]
  unfold cc3L3
  simp -implicitDefEqProofs (maxSteps := 500000) (disch := first | decide | omega) only [↓preS, ↓reduceIte, allS, Nat.reduceBEq, Nat.reduceAdd, Nat.reduceEqDiff, reduceIte, Int.reduceToNat, Int.reduceLE, Int.reduceLT, Nat.reduceLeDiff, Nat.reduceMul, Nat.reducePow, Nat.reduceLT, Int.reduceBEq, Int.reduceBNe, Int.reduceAdd, Int.reduceSub, Int.reduceMul, Int.reduceGT, Int.reduceGE, decS, Int.reduceNe, Int.reduceEq]
  refine aw_loopS (σ := Nat × List Ask) (fun q => ⟨[(0, .sl false 8 (l.map ASK)), (1, .int .i64 prio), (2, .int .i64 misses), (7, .sl false 8 (q.2.map ASK)), (8, .int .i64 (q.1 : Int))], []⟩)
    (fun q => q.1 ≤ l.length ∧ q.1 ≤ 30 ∧ Inv q.2 ∧ ∀ x ∈ q.2, x.missed = 0) (fun q => 30 - q.1) (0, []) ?_ ⟨by simp, by simp, Inv.nil, by simp⟩ ?_
  · (refine Sub.ofL [] rfl (by simp) (by decide) (by simp [partL, AO.ro, AV.ro, AV.roL, names, AO.empty, SB, U8, SI, I64, STR]) (by simp [AO.bo, AV.bo, AV.boL, names]) ?_ <;> (try simp only [List.map_cons, List.map_nil, regsL, AV.ro, AV.roL, AV.bo, AV.boL, names, get_here, get_there, Nat.reduceBEq, List.getD_cons_zero, List.getD_cons_succ, List.getD_nil, and_true, true_and, Nat.reduceLT, List.length_cons, List.length_nil, Nat.reduceAdd, decide_true, Option.isSome_some, Bool.true_or, Bool.and_self, Option.isSome_none, Bool.false_or, beq_self_eq_true, wk0_self, wk0_nils]) <;> (try and_intros) <;> (first | done | rfl | exact .inl rfl | exact .inr ⟨rfl, _, _, rfl⟩ | (simp; done) | (simp; omega) | (refine .inl ?_; simp; done) | (refine .inl ?_; simp; omega)))
  rintro ⟨i, a⟩ ⟨hi1, hi2, inv, hm⟩
  simp only at hi1 hi2 inv hm
  unfold cc3l3
  by_cases hil : i < l.length ∧ i < 30
  · obtain ⟨hil, hi30⟩ := hil
    have hg : l.getD i default = l[i] := by simp [hil]
    simp -implicitDefEqProofs (maxSteps := 500000) (disch := first | decide | omega) only [↓preS, ↓reduceIte, allS, Nat.reduceBEq, Nat.reduceAdd, Nat.reduceEqDiff, reduceIte, Int.reduceToNat, Int.reduceLE, Int.reduceLT, Nat.reduceLeDiff, Nat.reduceMul, Nat.reducePow, Nat.reduceLT, Int.reduceBEq, Int.reduceBNe, Int.reduceAdd, Int.reduceSub, Int.reduceMul, Int.reduceGT, Int.reduceGE, decS, Int.reduceNe, Int.reduceEq, askS, askT, hg, List.append_nil]
    refine ⟨by omega, by omega, ?_⟩
    refine acK_of (FCall.of (lent := false) (good_ok l[i]) (.refl rfl) rfl (by simp)) ?_
    have gd := gd_good l[i]
    generalize goodA l[i] = x at gd
    simp -implicitDefEqProofs (maxSteps := 500000) (disch := first | decide | omega) only [↓preS, ↓reduceIte, allS, Nat.reduceBEq, Nat.reduceAdd, Nat.reduceEqDiff, reduceIte, Int.reduceToNat, Int.reduceLE, Int.reduceLT, Nat.reduceLeDiff, Nat.reduceMul, Nat.reducePow, Nat.reduceLT, Int.reduceBEq, Int.reduceBNe, Int.reduceAdd, Int.reduceSub, Int.reduceMul, Int.reduceGT, Int.reduceGE, decS, Int.reduceNe, Int.reduceEq, askS, askT, hg, List.append_nil]
    have hal := inv.le
    refine acK_of (FCall.of (lent := false) (set_ok false a x (by omega)) (.refl rfl) rfl (by simp)) ?_
    have inv2 := inv_set inv gd
    have hme : ∀ y ∈ (setL x a).1, y.missed = 0 := fun y hy => by
      rcases set_mem hy with ⟨rfl, _⟩ | ⟨h, _⟩
      · rfl
      · exact hm y h
    rcases set_err (a := x) inv with e | ⟨e, h8⟩
    · generalize setL x a = s at e inv2 hme
      obtain ⟨b, e2⟩ := s
      simp only at e inv2 hme
      subst e
      unfold setR
      simp -implicitDefEqProofs (maxSteps := 500000) (disch := first | decide | omega) only [↓preS, ↓reduceIte, allS, Nat.reduceBEq, Nat.reduceAdd, Nat.reduceEqDiff, reduceIte, Int.reduceToNat, Int.reduceLE, Int.reduceLT, Nat.reduceLeDiff, Nat.reduceMul, Nat.reducePow, Nat.reduceLT, Int.reduceBEq, Int.reduceBNe, Int.reduceAdd, Int.reduceSub, Int.reduceMul, Int.reduceGT, Int.reduceGE, decS, Int.reduceNe, Int.reduceEq]
      refine ⟨(i + 1, b), ?_, ⟨by simp only; omega, by simp only; omega, inv2, hme⟩, by simp only; omega⟩
      (refine Sub.ofL [] rfl (by simp) (by decide) (by simp [partL, AO.ro, AV.ro, AV.roL, names, AO.empty, SB, U8, SI, I64, STR]) (by simp [AO.bo, AV.bo, AV.boL, names]) ?_ <;> (try simp only [List.map_cons, List.map_nil, regsL, AV.ro, AV.roL, AV.bo, AV.boL, names, get_here, get_there, Nat.reduceBEq, List.getD_cons_zero, List.getD_cons_succ, List.getD_nil, and_true, true_and, Nat.reduceLT, List.length_cons, List.length_nil, Nat.reduceAdd, decide_true, Option.isSome_some, Bool.true_or, Bool.and_self, Option.isSome_none, Bool.false_or, beq_self_eq_true, wk0_self, wk0_nils]) <;> (try and_intros) <;> (first | done | rfl | exact .inl rfl | exact .inr ⟨rfl, _, _, rfl⟩ | (simp; done) | (simp; omega) | (refine .inl ?_; simp; done) | (refine .inl ?_; simp; omega)))
    · rw [e]
      unfold setR
      simp -implicitDefEqProofs (maxSteps := 500000) (disch := first | decide | omega) only [↓preS, ↓reduceIte, allS, Nat.reduceBEq, Nat.reduceAdd, Nat.reduceEqDiff, reduceIte, Int.reduceToNat, Int.reduceLE, Int.reduceLT, Nat.reduceLeDiff, Nat.reduceMul, Nat.reducePow, Nat.reduceLT, Int.reduceBEq, Int.reduceBNe, Int.reduceAdd, Int.reduceSub, Int.reduceMul, Int.reduceGT, Int.reduceGE, decS, Int.reduceNe, Int.reduceEq, h8]
      refine ⟨(i + 1, a), ?_, ⟨by simp only; omega, by simp only; omega, inv, hm⟩, by simp only; omega⟩
      (refine Sub.ofL [] rfl (by simp) (by decide) (by simp [partL, AO.ro, AV.ro, AV.roL, names, AO.empty, SB, U8, SI, I64, STR]) (by simp [AO.bo, AV.bo, AV.boL, names]) ?_ <;> (try simp only [List.map_cons, List.map_nil, regsL, AV.ro, AV.roL, AV.bo, AV.boL, names, get_here, get_there, Nat.reduceBEq, List.getD_cons_zero, List.getD_cons_succ, List.getD_nil, and_true, true_and, Nat.reduceLT, List.length_cons, List.length_nil, Nat.reduceAdd, decide_true, Option.isSome_some, Bool.true_or, Bool.and_self, Option.isSome_none, Bool.false_or, beq_self_eq_true, wk0_self, wk0_nils]) <;> (try and_intros) <;> (first | done | rfl | exact .inl rfl | exact .inr ⟨rfl, _, _, rfl⟩ | (simp; done) | (simp; omega) | (refine .inl ?_; simp; done) | (refine .inl ?_; simp; omega)))
  · have hor : ¬ i < l.length ∨ (i < l.length ∧ ¬ i < 30) := by omega
    clear hil
    have hal := inv.le
    rcases hor with h0 | h0 <;> (
    simp -implicitDefEqProofs (maxSteps := 500000) (disch := first | decide | omega) only [↓preS, ↓reduceIte, allS, Nat.reduceBEq, Nat.reduceAdd, Nat.reduceEqDiff, reduceIte, Int.reduceToNat, Int.reduceLE, Int.reduceLT, Nat.reduceLeDiff, Nat.reduceMul, Nat.reducePow, Nat.reduceLT, Int.reduceBEq, Int.reduceBNe, Int.reduceAdd, Int.reduceSub, Int.reduceMul, Int.reduceGT, Int.reduceGE, decS, Int.reduceNe, Int.reduceEq]
    unfold cc3L2
    simp -implicitDefEqProofs (maxSteps := 500000) (disch := first | decide | omega) only [↓preS, ↓reduceIte, allS, Nat.reduceBEq, Nat.reduceAdd, Nat.reduceEqDiff, reduceIte, Int.reduceToNat, Int.reduceLE, Int.reduceLT, Nat.reduceLeDiff, Nat.reduceMul, Nat.reducePow, Nat.reduceLT, Int.reduceBEq, Int.reduceBNe, Int.reduceAdd, Int.reduceSub, Int.reduceMul, Int.reduceGT, Int.reduceGE, decS, Int.reduceNe, Int.reduceEq]
    refine aw_loopS (σ := Nat) (fun i => ⟨[(1, .int .i64 prio), (2, .int .i64 misses), (7, .sl false 8 (a.map ASK)), (12, .int .i64 (i : Int))], []⟩) (fun i => i ≤ a.length) (fun i => a.length - i) 0 (.inl rfl) (by omega) ?_
    intro j hj
    unfold cc3l2
    by_cases hjl : j < a.length
    · have hg : a.getD j default = a[j] := by simp [hjl]
      have hc := (inv.gd _ (List.getElem_mem hjl)).2
      by_cases hj0 : j = 0
      · subst hj0
        simp -implicitDefEqProofs (maxSteps := 500000) (disch := first | decide | omega) only [↓preS, ↓reduceIte, allS, Nat.reduceBEq, Nat.reduceAdd, Nat.reduceEqDiff, reduceIte, Int.reduceToNat, Int.reduceLE, Int.reduceLT, Nat.reduceLeDiff, Nat.reduceMul, Nat.reducePow, Nat.reduceLT, Int.reduceBEq, Int.reduceBNe, Int.reduceAdd, Int.reduceSub, Int.reduceMul, Int.reduceGT, Int.reduceGE, decS, Int.reduceNe, Int.reduceEq, askS, askT, askD, hg]
        exact ⟨by omega, by omega, 1, .inl rfl, by omega, by omega⟩
      · have hg1 : a.getD (j - 1) default = a[j - 1] := by simp [(by omega : j - 1 < a.length)]
        have hlt : a[j - 1].prio < a[j].prio := List.pairwise_iff_getElem.1 inv.so (j - 1) j (by omega) hjl (by omega)
        have hj1 : ((j : Int) - 1).toNat = j - 1 := by omega
        simp -implicitDefEqProofs (maxSteps := 500000) (disch := first | decide | omega) only [↓preS, ↓reduceIte, allS, Nat.reduceBEq, Nat.reduceAdd, Nat.reduceEqDiff, reduceIte, Int.reduceToNat, Int.reduceLE, Int.reduceLT, Nat.reduceLeDiff, Nat.reduceMul, Nat.reducePow, Nat.reduceLT, Int.reduceBEq, Int.reduceBNe, Int.reduceAdd, Int.reduceSub, Int.reduceMul, Int.reduceGT, Int.reduceGE, decS, Int.reduceNe, Int.reduceEq, askS, askT, askD, hg, hg1, hj1]
        exact ⟨by omega, by omega, by omega, by omega, by omega, by omega, by omega, j + 1, .inl rfl, by omega, by omega⟩
    · simp -implicitDefEqProofs (maxSteps := 500000) (disch := first | decide | omega) only [↓preS, ↓reduceIte, allS, Nat.reduceBEq, Nat.reduceAdd, Nat.reduceEqDiff, reduceIte, Int.reduceToNat, Int.reduceLE, Int.reduceLT, Nat.reduceLeDiff, Nat.reduceMul, Nat.reducePow, Nat.reduceLT, Int.reduceBEq, Int.reduceBNe, Int.reduceAdd, Int.reduceSub, Int.reduceMul, Int.reduceGT, Int.reduceGE, decS, Int.reduceNe, Int.reduceEq]
      refine acK_of (FCall.of (lent := false) (within_ok misses 130 (by omega) (by omega)) (.refl rfl) rfl (by simp)) ?_
      simp -implicitDefEqProofs (maxSteps := 500000) (disch := first | decide | omega) only [↓preS, ↓reduceIte, allS, Nat.reduceBEq, Nat.reduceAdd, Nat.reduceEqDiff, reduceIte, Int.reduceToNat, Int.reduceLE, Int.reduceLT, Nat.reduceLeDiff, Nat.reduceMul, Nat.reducePow, Nat.reduceLT, Int.reduceBEq, Int.reduceBNe, Int.reduceAdd, Int.reduceSub, Int.reduceMul, Int.reduceGT, Int.reduceGE, decS, Int.reduceNe, Int.reduceEq]
      refine acK_of (FCall.of (lent := false) (within_ok prio 10 (by omega) (by omega)) (.refl rfl) rfl (by simp)) ?_
      simp -implicitDefEqProofs (maxSteps := 500000) (disch := first | decide | omega) only [↓preS, ↓reduceIte, allS, Nat.reduceBEq, Nat.reduceAdd, Nat.reduceEqDiff, reduceIte, Int.reduceToNat, Int.reduceLE, Int.reduceLT, Nat.reduceLeDiff, Nat.reduceMul, Nat.reducePow, Nat.reduceLT, Int.reduceBEq, Int.reduceBNe, Int.reduceAdd, Int.reduceSub, Int.reduceMul, Int.reduceGT, Int.reduceGE, decS, Int.reduceNe, Int.reduceEq]
      have wm := win_rng misses 130 (by omega)
      generalize win misses 130 = ms at wm
      generalize win prio 10 = p
      unfold cc3L1
      simp -implicitDefEqProofs (maxSteps := 500000) (disch := first | decide | omega) only [↓preS, ↓reduceIte, allS, Nat.reduceBEq, Nat.reduceAdd, Nat.reduceEqDiff, reduceIte, Int.reduceToNat, Int.reduceLE, Int.reduceLT, Nat.reduceLeDiff, Nat.reduceMul, Nat.reducePow, Nat.reduceLT, Int.reduceBEq, Int.reduceBNe, Int.reduceAdd, Int.reduceSub, Int.reduceMul, Int.reduceGT, Int.reduceGE, decS, Int.reduceNe, Int.reduceEq]
      refine aw_loopS (σ := Nat) (fun k => ⟨[(1, .int .i64 p), (2, .int .i64 ms), (7, .sl false 8 (a.map ASK)), (13, .sl false 8 ((a.map (mk p k)).map ASK)), (14, .int .i64 (k : Int))], []⟩) (fun k => (k : Int) ≤ ms) (fun k => ms.toNat - k) 0 ?_ (by omega) ?_
      · have e0 : a.map (mk p 0) = a := (List.map_congr_left fun x hx => mk_0 (hm x hx)).trans (List.map_id _)
        rw [e0]
        exact .inl rfl
      intro k hk
      unfold cc3l1
      have invk := inv_mk inv p k
      by_cases hkm : (k : Int) < ms
      · simp -implicitDefEqProofs (maxSteps := 500000) (disch := first | decide | omega) only [↓preS, ↓reduceIte, allS, Nat.reduceBEq, Nat.reduceAdd, Nat.reduceEqDiff, reduceIte, Int.reduceToNat, Int.reduceLE, Int.reduceLT, Nat.reduceLeDiff, Nat.reduceMul, Nat.reducePow, Nat.reduceLT, Int.reduceBEq, Int.reduceBNe, Int.reduceAdd, Int.reduceSub, Int.reduceMul, Int.reduceGT, Int.reduceGE, decS, Int.reduceNe, Int.reduceEq]
        refine acK_of (FCall.of (lent := false) (miss_ok false p (a.map (mk p k)) (by simp; omega) (fun x hx => by have := (invk.gd x hx).1; have h1 := this.s0; have h2 := this.s9; omega)) (.refl rfl) rfl (by simp)) ?_
        simp -implicitDefEqProofs (maxSteps := 500000) (disch := first | decide | omega) only [↓preS, ↓reduceIte, allS, Nat.reduceBEq, Nat.reduceAdd, Nat.reduceEqDiff, reduceIte, Int.reduceToNat, Int.reduceLE, Int.reduceLT, Nat.reduceLeDiff, Nat.reduceMul, Nat.reducePow, Nat.reduceLT, Int.reduceBEq, Int.reduceBNe, Int.reduceAdd, Int.reduceSub, Int.reduceMul, Int.reduceGT, Int.reduceGE, decS, Int.reduceNe, Int.reduceEq]
        rw [miss_eq invk.so, miss_mk]
        exact ⟨k + 1, .inl rfl, by omega, by omega⟩
      · simp -implicitDefEqProofs (maxSteps := 500000) (disch := first | decide | omega) only [↓preS, ↓reduceIte, allS, Nat.reduceBEq, Nat.reduceAdd, Nat.reduceEqDiff, reduceIte, Int.reduceToNat, Int.reduceLE, Int.reduceLT, Nat.reduceLeDiff, Nat.reduceMul, Nat.reducePow, Nat.reduceLT, Int.reduceBEq, Int.reduceBNe, Int.reduceAdd, Int.reduceSub, Int.reduceMul, Int.reduceGT, Int.reduceGE, decS, Int.reduceNe, Int.reduceEq]
        unfold cc3L0
        simp -implicitDefEqProofs (maxSteps := 500000) (disch := first | decide | omega) only [↓preS, ↓reduceIte, allS, Nat.reduceBEq, Nat.reduceAdd, Nat.reduceEqDiff, reduceIte, Int.reduceToNat, Int.reduceLE, Int.reduceLT, Nat.reduceLeDiff, Nat.reduceMul, Nat.reducePow, Nat.reduceLT, Int.reduceBEq, Int.reduceBNe, Int.reduceAdd, Int.reduceSub, Int.reduceMul, Int.reduceGT, Int.reduceGE, decS, Int.reduceNe, Int.reduceEq]
        have hkm2 : (k : Int) = ms := by omega
        refine aw_loopS (σ := Nat) (fun i => ⟨[(1, .int .i64 p), (2, .int .i64 ms), (7, .sl false 8 (a.map ASK)), (13, .sl false 8 ((a.map (mk p k)).map ASK)), (15, .int .i64 (i : Int))], []⟩) (fun i => i ≤ a.length) (fun i => a.length - i) 0 (.inl rfl) (by omega) ?_
        intro j hj
        unfold cc3l0
        by_cases hjl : j < a.length
        · have hg : (a.map (mk p k)).getD j default = mk p k a[j] := by simp [List.getD_eq_getElem?_getD, hjl]
          have h0 := hm _ (List.getElem_mem hjl)
          by_cases hp : a[j].prio = p
          · have e : mk p k a[j] = { a[j] with missed := min ms 100 } := by unfold mk; rw [if_pos hp, hkm2]
            rw [e] at hg
            simp -implicitDefEqProofs (maxSteps := 500000) (disch := first | decide | omega) only [↓preS, ↓reduceIte, allS, Nat.reduceBEq, Nat.reduceAdd, Nat.reduceEqDiff, reduceIte, Int.reduceToNat, Int.reduceLE, Int.reduceLT, Nat.reduceLeDiff, Nat.reduceMul, Nat.reducePow, Nat.reduceLT, Int.reduceBEq, Int.reduceBNe, Int.reduceAdd, Int.reduceSub, Int.reduceMul, Int.reduceGT, Int.reduceGE, decS, Int.reduceNe, Int.reduceEq, askS, askT, askD, hg, List.length_map, mm2]
            exact ⟨by omega, by omega, by omega, by omega, j + 1, .inl rfl, by omega, by omega⟩
          · have e : mk p k a[j] = a[j] := by unfold mk; rw [if_neg hp]
            rw [e] at hg
            simp -implicitDefEqProofs (maxSteps := 500000) (disch := first | decide | omega) only [↓preS, ↓reduceIte, allS, Nat.reduceBEq, Nat.reduceAdd, Nat.reduceEqDiff, reduceIte, Int.reduceToNat, Int.reduceLE, Int.reduceLT, Nat.reduceLeDiff, Nat.reduceMul, Nat.reducePow, Nat.reduceLT, Int.reduceBEq, Int.reduceBNe, Int.reduceAdd, Int.reduceSub, Int.reduceMul, Int.reduceGT, Int.reduceGE, decS, Int.reduceNe, Int.reduceEq, askS, askT, askD, hg, List.length_map, h0]
            exact ⟨by omega, by omega, by omega, by omega, j + 1, .inl rfl, by omega, by omega⟩
        · simp -implicitDefEqProofs (maxSteps := 500000) (disch := first | decide | omega) only [↓preS, ↓reduceIte, allS, Nat.reduceBEq, Nat.reduceAdd, Nat.reduceEqDiff, reduceIte, Int.reduceToNat, Int.reduceLE, Int.reduceLT, Nat.reduceLeDiff, Nat.reduceMul, Nat.reducePow, Nat.reduceLT, Int.reduceBEq, Int.reduceBNe, Int.reduceAdd, Int.reduceSub, Int.reduceMul, Int.reduceGT, Int.reduceGE, decS, Int.reduceNe, Int.reduceEq, List.length_map])
end Go.Proofs.Ytglimfdofgadjaa
