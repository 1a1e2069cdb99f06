/- What functions of the program compute. No condition. -/
import Derived.Test.YtlgdinihbomlpaaN9a
set_option linter.unusedSimpArgs false
set_option linter.unusedVariables false
namespace Go.Proofs.Ytlgdinihbomlpaa
open Go Go.Ab

theorem bor_ln {H : List AO} {i2 n : Nat} {qs : List Queue} {l : List Node} {now : Int} (h2 : H[i2]? = some (.arr 8 (l.map NODE))) (hn : n = l.length) :
    Vw true H (.agg (stC (.sl false 3 (qs.map QUE)) (.own i2 8 0 n) now)) (.agg (stC (.sl false 3 (qs.map QUE)) (.sl true 8 (l.map NODE)) now)) := by
  subst hn
  exact bor_l h2
def offN (n : Node) : Node := { n with up := false, beat := 7 }
theorem offN_id {n : Node} : (offN n).id = n.id := rfl
theorem reg_again {l : List Node} {f : Nat → Bool} (inv : Inv l f) (k : Nat) (hk : k < l.length) : regF 0 ⟨l[k].id, 0, 9, 0, 0, 0, 0, false⟩ (l.set k (offN l[k])) = ((l.set k (offN l[k])).set k ⟨l[k].id, 0, 9, 0, 0, 0, 0, true⟩, 0) := by
  have hi : idxI (idP l[k].id) (l.set k (offN l[k])) = (k : Int) := by
    refine idx_at (by simpa using hk) (fun j hj => ?_) ?_
    · rw [List.getElem_set, if_neg (by omega)]
      have := List.pairwise_iff_getElem.1 inv.so j k (by omega) hk hj
      simp [idP]
      omega
    · simp [idP, offN]
  unfold regF
  simp only
  rw [hi]
  have hu : ((l.set k (offN l[k])).getD ((k : Int)).toNat default).up = false := by simp [List.getD_eq_getElem?_getD, hk, offN]
  rw [if_neg (by rw [hu]; simp), if_neg (by omega), if_pos (by omega)]
  rfl
set_option maxRecDepth 20000 in
set_option maxHeartbeats 8000000 in
theorem many_law (ids : List Int) (hids : ids.length < 2 ^ 63) (again : Int) : ACall Try.prog 3 [.sl false 1 (ids.map I64), .int .i64 again] [] fun y _ => y = .bool true := by
  refine acall_of is3 (by simp) ?_
  unfold cc3
  simp -implicitDefEqProofs (maxSteps := 500000) (disch := first | decide | omega) only [↓preS, ↓reduceIte, allS, Nat.reduceBEq, Nat.reduceAdd, Nat.reduceEqDiff, reduceIte, Int.reduceToNat, Int.reduceLE, Int.reduceLT, Nat.reduceLeDiff, Nat.reduceMul, Nat.reducePow, Nat.reduceLT, Int.reduceBEq, Int.reduceBNe, Int.reduceAdd, Int.reduceSub, Int.reduceMul, Int.reduceGT, Int.reduceGE, decS, Int.reduceNe, Int.reduceEq]
  refine acK_of (FCall.of (lent := false) (known_ok) (.refl rfl) rfl (by simp)) ?_
  simp -implicitDefEqProofs (maxSteps := 500000) (disch := first | decide | omega) only [↓preS, ↓reduceIte, allS, Nat.reduceBEq, Nat.reduceAdd, Nat.reduceEqDiff, reduceIte, Int.reduceToNat, Int.reduceLE, Int.reduceLT, Nat.reduceLeDiff, Nat.reduceMul, Nat.reducePow, Nat.reduceLT, Int.reduceBEq, Int.reduceBNe, Int.reduceAdd, Int.reduceSub, Int.reduceMul, Int.reduceGT, Int.reduceGE, decS, Int.reduceNe, Int.reduceEq]
  refine acK_of (FCall.of (lent := false) (new_ok) (.refl rfl) rfl (by simp)) ?_
  unfold stC
  simp -implicitDefEqProofs (maxSteps := 500000) (disch := first | decide | omega) only [↓preS, ↓reduceIte, allS, Nat.reduceBEq, Nat.reduceAdd, Nat.reduceEqDiff, reduceIte, Int.reduceToNat, Int.reduceLE, Int.reduceLT, Nat.reduceLeDiff, Nat.reduceMul, Nat.reducePow, Nat.reduceLT, Int.reduceBEq, Int.reduceBNe, Int.reduceAdd, Int.reduceSub, Int.reduceMul, Int.reduceGT, Int.reduceGE, decS, Int.reduceNe, Int.reduceEq]
  unfold cc3L1
  simp -implicitDefEqProofs (maxSteps := 500000) (disch := first | decide | omega) only [↓preS, ↓reduceIte, allS, Nat.reduceBEq, Nat.reduceAdd, Nat.reduceEqDiff, reduceIte, Int.reduceToNat, Int.reduceLE, Int.reduceLT, Nat.reduceLeDiff, Nat.reduceMul, Nat.reducePow, Nat.reduceLT, Int.reduceBEq, Int.reduceBNe, Int.reduceAdd, Int.reduceSub, Int.reduceMul, Int.reduceGT, Int.reduceGE, decS, Int.reduceNe, Int.reduceEq]
  refine aw_loopS (σ := Nat × List Node × (Nat → Bool)) (fun q => ⟨[(0, .sl false 1 (ids.map I64)), (1, .int .i64 again), (5, .ref 0 0 0), (6, .int .i64 (q.2.1.length : Int)), (7, .ref 1 0 0), (8, .int .i64 (q.1 : Int))], [.box (stC (.sl false 3 ([q0].map QUE)) (NV q.2.1) 0), .box (seenC q.2.2)]⟩)
    (fun q => q.1 ≤ ids.length ∧ q.1 ≤ 40 ∧ Inv q.2.1 q.2.2) (fun q => 40 - q.1) (0, [], fun _ => false) ?_ ⟨by simp, by simp, Inv.nil⟩ ?_
  · exact .inl rfl
  rintro ⟨i, l, f⟩ ⟨hi1, hi2, inv⟩
  simp only at hi1 hi2 inv
  have hll := inv.le
  unfold cc3l1
  by_cases hil : i < ids.length ∧ i < 40
  · obtain ⟨hil, hi40⟩ := hil
    have hg : ids.getD i default = ids[i] := by simp [hil]
    have w := win_rng ids[i] 20 (by omega)
    have cw := within_ok ids[i] 20 (by omega) (by omega)
    generalize win ids[i] 20 = k at w cw
    have r := reg_all l (by omega) 0 ⟨k, 0, 0, k, 0, 0, 0, false⟩ ⟨by simp only; omega, by simp only; omega, rfl, by simp, by simp, by simp only; omega, by simp only; omega, by simp, by simp⟩
    have hsl : (((k.toNat : Nat) : Int)) = k := by omega
    have sa := seen_at f k.toNat (by omega)
    have ss := seen_set f k.toNat (by omega)
    have ss2 := seen_setA f k.toNat (by omega)
    have hor : ∃ X, NV l = X ∧ (X = .nils ∨ X = .sl false 8 (l.map NODE)) := by
      by_cases h : l = []
      · exact ⟨_, rfl, .inl (by rw [h]; rfl)⟩
      · exact ⟨_, rfl, .inr (nv_ne h)⟩
    obtain ⟨X, hX, hor⟩ := hor
    rcases step_reg inv k w.1 w.2 with ⟨hf, e⟩ | ⟨hf, h12, e⟩ | ⟨hf, h12, b, e, hbl, invb⟩
    · rw [e] at r
      simp only at r
      rw [hX] at r ⊢
      rw [hf] at sa
      rcases hor with rfl | rfl <;> (
        unfold stC
        simp -implicitDefEqProofs (maxSteps := 500000) (disch := first | decide | omega) only [↓preS, ↓reduceIte, allS, Nat.reduceBEq, Nat.reduceAdd, Nat.reduceEqDiff, reduceIte, Int.reduceToNat, Int.reduceLE, Int.reduceLT, Nat.reduceLeDiff, Nat.reduceMul, Nat.reducePow, Nat.reduceLT, Int.reduceBEq, Int.reduceBNe, Int.reduceAdd, Int.reduceSub, Int.reduceMul, Int.reduceGT, Int.reduceGE, decS, Int.reduceNe, Int.reduceEq, hg]
        refine ⟨by omega, by omega, ?_⟩
        refine acK_of (FCall.of (lent := false) (cw) (.refl rfl) rfl (by simp)) ?_
        simp -implicitDefEqProofs (maxSteps := 500000) (disch := first | decide | omega) only [↓preS, ↓reduceIte, allS, Nat.reduceBEq, Nat.reduceAdd, Nat.reduceEqDiff, reduceIte, Int.reduceToNat, Int.reduceLE, Int.reduceLT, Nat.reduceLeDiff, Nat.reduceMul, Nat.reducePow, Nat.reduceLT, Int.reduceBEq, Int.reduceBNe, Int.reduceAdd, Int.reduceSub, Int.reduceMul, Int.reduceGT, Int.reduceGE, decS, Int.reduceNe, Int.reduceEq, fillOk, fillAV, List.append_nil]
        refine acK_of (FCall.of (lent := false) (r) (.refl rfl) rfl (by simp)) ?_
        unfold stC
        simp -implicitDefEqProofs (maxSteps := 500000) (disch := first | decide | omega) only [↓preS, ↓reduceIte, allS, Nat.reduceBEq, Nat.reduceAdd, Nat.reduceEqDiff, reduceIte, Int.reduceToNat, Int.reduceLE, Int.reduceLT, Nat.reduceLeDiff, Nat.reduceMul, Nat.reducePow, Nat.reduceLT, Int.reduceBEq, Int.reduceBNe, Int.reduceAdd, Int.reduceSub, Int.reduceMul, Int.reduceGT, Int.reduceGE, decS, Int.reduceNe, Int.reduceEq, seenS, sa, Nat.mul_one]
        refine ⟨by omega, by omega, by omega, (i + 1, l, f), ?_, ⟨by simp only; omega, by simp only; omega, inv⟩, by simp only; omega⟩
        simp only [hX]
        (refine Sub.ofL [some 0, some 1] rfl (by simp) (by decide) (by simp [partL, AO.ro, AV.ro, AV.roL, names, AO.empty, SB, U8, SI, I64, STR] <;> (try and_intros) <;> rfl) (by simp [AO.bo, AV.bo, AV.boL, names] <;> (try and_intros) <;> rfl) ?_ <;> (try simp only [List.map_cons, List.map_nil, regsL, AV.ro, AV.roL, AV.bo, AV.boL, names, get_here, get_there, Nat.reduceBEq, List.getD_cons_zero, List.getD_cons_succ, List.getD_nil, and_true, true_and, Nat.reduceLT, List.length_cons, List.length_nil, Nat.reduceAdd, decide_true, Option.isSome_some, Bool.true_or, Bool.and_self, Option.isSome_none, Bool.false_or, beq_self_eq_true, wk0_self, wk0_nils]) <;> (try and_intros) <;> (first | done | rfl | exact .inl rfl | exact .inr ⟨rfl, _, _, rfl⟩ | (simp; done) | (simp; omega) | (refine .inl ?_; simp; done) | (refine .inl ?_; simp; omega))))
    · rw [e] at r
      simp only at r
      rw [hX] at r ⊢
      rw [hf] at sa
      rcases hor with rfl | rfl <;> (
        unfold stC
        simp -implicitDefEqProofs (maxSteps := 500000) (disch := first | decide | omega) only [↓preS, ↓reduceIte, allS, Nat.reduceBEq, Nat.reduceAdd, Nat.reduceEqDiff, reduceIte, Int.reduceToNat, Int.reduceLE, Int.reduceLT, Nat.reduceLeDiff, Nat.reduceMul, Nat.reducePow, Nat.reduceLT, Int.reduceBEq, Int.reduceBNe, Int.reduceAdd, Int.reduceSub, Int.reduceMul, Int.reduceGT, Int.reduceGE, decS, Int.reduceNe, Int.reduceEq, hg]
        refine ⟨by omega, by omega, ?_⟩
        refine acK_of (FCall.of (lent := false) (cw) (.refl rfl) rfl (by simp)) ?_
        simp -implicitDefEqProofs (maxSteps := 500000) (disch := first | decide | omega) only [↓preS, ↓reduceIte, allS, Nat.reduceBEq, Nat.reduceAdd, Nat.reduceEqDiff, reduceIte, Int.reduceToNat, Int.reduceLE, Int.reduceLT, Nat.reduceLeDiff, Nat.reduceMul, Nat.reducePow, Nat.reduceLT, Int.reduceBEq, Int.reduceBNe, Int.reduceAdd, Int.reduceSub, Int.reduceMul, Int.reduceGT, Int.reduceGE, decS, Int.reduceNe, Int.reduceEq, fillOk, fillAV, List.append_nil]
        refine acK_of (FCall.of (lent := false) (r) (.refl rfl) rfl (by simp)) ?_
        unfold stC
        simp -implicitDefEqProofs (maxSteps := 500000) (disch := first | decide | omega) only [↓preS, ↓reduceIte, allS, Nat.reduceBEq, Nat.reduceAdd, Nat.reduceEqDiff, reduceIte, Int.reduceToNat, Int.reduceLE, Int.reduceLT, Nat.reduceLeDiff, Nat.reduceMul, Nat.reducePow, Nat.reduceLT, Int.reduceBEq, Int.reduceBNe, Int.reduceAdd, Int.reduceSub, Int.reduceMul, Int.reduceGT, Int.reduceGE, decS, Int.reduceNe, Int.reduceEq, seenS, sa, Nat.mul_one]
        refine ⟨by omega, by omega, by omega, (i + 1, l, f), ?_, ⟨by simp only; omega, by simp only; omega, inv⟩, by simp only; omega⟩
        simp only [hX]
        (refine Sub.ofL [some 0, some 1] rfl (by simp) (by decide) (by simp [partL, AO.ro, AV.ro, AV.roL, names, AO.empty, SB, U8, SI, I64, STR] <;> (try and_intros) <;> rfl) (by simp [AO.bo, AV.bo, AV.boL, names] <;> (try and_intros) <;> rfl) ?_ <;> (try simp only [List.map_cons, List.map_nil, regsL, AV.ro, AV.roL, AV.bo, AV.boL, names, get_here, get_there, Nat.reduceBEq, List.getD_cons_zero, List.getD_cons_succ, List.getD_nil, and_true, true_and, Nat.reduceLT, List.length_cons, List.length_nil, Nat.reduceAdd, decide_true, Option.isSome_some, Bool.true_or, Bool.and_self, Option.isSome_none, Bool.false_or, beq_self_eq_true, wk0_self, wk0_nils]) <;> (try and_intros) <;> (first | done | rfl | exact .inl rfl | exact .inr ⟨rfl, _, _, rfl⟩ | (simp; done) | (simp; omega) | (refine .inl ?_; simp; done) | (refine .inl ?_; simp; omega))))
    · have hb : NV b = .sl false 8 (b.map NODE) := nv_ne (by intro h; simp [h] at hbl)
      rw [e] at r
      simp only at r
      rw [hX, hb] at r
      rw [hX]
      rw [hf] at sa
      have hbl2 : (b.length : Int) = (l.length : Int) + 1 := by omega
      rcases hor with rfl | rfl <;> (
        unfold stC
        simp -implicitDefEqProofs (maxSteps := 500000) (disch := first | decide | omega) only [↓preS, ↓reduceIte, allS, Nat.reduceBEq, Nat.reduceAdd, Nat.reduceEqDiff, reduceIte, Int.reduceToNat, Int.reduceLE, Int.reduceLT, Nat.reduceLeDiff, Nat.reduceMul, Nat.reducePow, Nat.reduceLT, Int.reduceBEq, Int.reduceBNe, Int.reduceAdd, Int.reduceSub, Int.reduceMul, Int.reduceGT, Int.reduceGE, decS, Int.reduceNe, Int.reduceEq, hg]
        refine ⟨by omega, by omega, ?_⟩
        refine acK_of (FCall.of (lent := false) (cw) (.refl rfl) rfl (by simp)) ?_
        simp -implicitDefEqProofs (maxSteps := 500000) (disch := first | decide | omega) only [↓preS, ↓reduceIte, allS, Nat.reduceBEq, Nat.reduceAdd, Nat.reduceEqDiff, reduceIte, Int.reduceToNat, Int.reduceLE, Int.reduceLT, Nat.reduceLeDiff, Nat.reduceMul, Nat.reducePow, Nat.reduceLT, Int.reduceBEq, Int.reduceBNe, Int.reduceAdd, Int.reduceSub, Int.reduceMul, Int.reduceGT, Int.reduceGE, decS, Int.reduceNe, Int.reduceEq, fillOk, fillAV, List.append_nil]
        refine acK_of (FCall.of (lent := false) (r) (.refl rfl) rfl (by simp)) ?_
        unfold stC
        simp -implicitDefEqProofs (maxSteps := 500000) (disch := first | decide | omega) only [↓preS, ↓reduceIte, allS, Nat.reduceBEq, Nat.reduceAdd, Nat.reduceEqDiff, reduceIte, Int.reduceToNat, Int.reduceLE, Int.reduceLT, Nat.reduceLeDiff, Nat.reduceMul, Nat.reducePow, Nat.reduceLT, Int.reduceBEq, Int.reduceBNe, Int.reduceAdd, Int.reduceSub, Int.reduceMul, Int.reduceGT, Int.reduceGE, decS, Int.reduceNe, Int.reduceEq, seenS, sa, ss, ss2, Nat.mul_one]
        refine ⟨by omega, by omega, by omega, by omega, by omega, by omega, (i + 1, b, updB f k.toNat), ?_, ⟨by simp only; omega, by simp only; omega, invb⟩, by simp only; omega⟩
        simp only [hb, hbl2]
        (refine Sub.ofL [some 0, some 1] rfl (by simp) (by decide) (by simp [partL, AO.ro, AV.ro, AV.roL, names, AO.empty, SB, U8, SI, I64, STR] <;> (try and_intros) <;> rfl) (by simp [AO.bo, AV.bo, AV.boL, names] <;> (try and_intros) <;> rfl) ?_ <;> (try simp only [List.map_cons, List.map_nil, regsL, AV.ro, AV.roL, AV.bo, AV.boL, names, get_here, get_there, Nat.reduceBEq, List.getD_cons_zero, List.getD_cons_succ, List.getD_nil, and_true, true_and, Nat.reduceLT, List.length_cons, List.length_nil, Nat.reduceAdd, decide_true, Option.isSome_some, Bool.true_or, Bool.and_self, Option.isSome_none, Bool.false_or, beq_self_eq_true, wk0_self, wk0_nils]) <;> (try and_intros) <;> (first | done | rfl | exact .inl rfl | exact .inr ⟨rfl, _, _, rfl⟩ | (simp; done) | (simp; omega) | (refine .inl ?_; simp; done) | (refine .inl ?_; simp; omega))))
  · have hor : ¬ i < ids.length ∨ (i < ids.length ∧ ¬ i < 40) := by omega
    clear hil
    by_cases hl0 : l = []
    · subst hl0
      rw [nv_nil]
      unfold stC
      rcases hor with h0 | h0 <;> (
      simp -implicitDefEqProofs (maxSteps := 500000) (disch := first | decide | omega) only [↓preS, ↓reduceIte, allS, Nat.reduceBEq, Nat.reduceAdd, Nat.reduceEqDiff, reduceIte, Int.reduceToNat, Int.reduceLE, Int.reduceLT, Nat.reduceLeDiff, Nat.reduceMul, Nat.reducePow, Nat.reduceLT, Int.reduceBEq, Int.reduceBNe, Int.reduceAdd, Int.reduceSub, Int.reduceMul, Int.reduceGT, Int.reduceGE, decS, Int.reduceNe, Int.reduceEq]
      unfold cc3L0
      simp -implicitDefEqProofs (maxSteps := 500000) (disch := first | decide | omega) only [↓preS, ↓reduceIte, allS, Nat.reduceBEq, Nat.reduceAdd, Nat.reduceEqDiff, reduceIte, Int.reduceToNat, Int.reduceLE, Int.reduceLT, Nat.reduceLeDiff, Nat.reduceMul, Nat.reducePow, Nat.reduceLT, Int.reduceBEq, Int.reduceBNe, Int.reduceAdd, Int.reduceSub, Int.reduceMul, Int.reduceGT, Int.reduceGE, decS, Int.reduceNe, Int.reduceEq]
      refine aw_loopS (σ := Unit) (fun _ => ⟨[(1, .int .i64 again), (5, .ref 0 0 0), (6, .int .i64 0), (13, .int .i64 1)], [.box [.sl false 1 [.str []], .sl false 3 ([q0].map QUE), .nils, .nils, .nils, .nils, .nils, .int .i64 0, .int .i64 0, .int .i64 0]]⟩) (fun _ => True) (fun _ => 0) () ?_ trivial ?_
      · (refine Sub.ofL [some 0] rfl (by simp) (by decide) (by simp [partL, AO.ro, AV.ro, AV.roL, names, AO.empty, SB, U8, SI, I64, STR] <;> (try and_intros) <;> rfl) (by simp [AO.bo, AV.bo, AV.boL, names] <;> (try and_intros) <;> rfl) ?_ <;> (try simp only [List.map_cons, List.map_nil, regsL, AV.ro, AV.roL, AV.bo, AV.boL, names, get_here, get_there, Nat.reduceBEq, List.getD_cons_zero, List.getD_cons_succ, List.getD_nil, and_true, true_and, Nat.reduceLT, List.length_cons, List.length_nil, Nat.reduceAdd, decide_true, Option.isSome_some, Bool.true_or, Bool.and_self, Option.isSome_none, Bool.false_or, beq_self_eq_true, wk0_self, wk0_nils]) <;> (try and_intros) <;> (first | done | rfl | exact .inl rfl | exact .inr ⟨rfl, _, _, rfl⟩ | (simp; done) | (simp; omega) | (refine .inl ?_; simp; done) | (refine .inl ?_; simp; omega)))
      intro _ _
      unfold cc3l0
      simp -implicitDefEqProofs (maxSteps := 500000) (disch := first | decide | omega) only [↓preS, ↓reduceIte, allS, Nat.reduceBEq, Nat.reduceAdd, Nat.reduceEqDiff, reduceIte, Int.reduceToNat, Int.reduceLE, Int.reduceLT, Nat.reduceLeDiff, Nat.reduceMul, Nat.reducePow, Nat.reduceLT, Int.reduceBEq, Int.reduceBNe, Int.reduceAdd, Int.reduceSub, Int.reduceMul, Int.reduceGT, Int.reduceGE, decS, Int.reduceNe, Int.reduceEq])
    · rw [nv_ne hl0]
      have hpos : 0 < l.length := List.length_pos_iff.2 hl0
      unfold stC
      rcases hor with h0 | h0 <;> (
      simp -implicitDefEqProofs (maxSteps := 500000) (disch := first | decide | omega) only [↓preS, ↓reduceIte, allS, Nat.reduceBEq, Nat.reduceAdd, Nat.reduceEqDiff, reduceIte, Int.reduceToNat, Int.reduceLE, Int.reduceLT, Nat.reduceLeDiff, Nat.reduceMul, Nat.reducePow, Nat.reduceLT, Int.reduceBEq, Int.reduceBNe, Int.reduceAdd, Int.reduceSub, Int.reduceMul, Int.reduceGT, Int.reduceGE, decS, Int.reduceNe, Int.reduceEq]
      unfold cc3L0
      simp -implicitDefEqProofs (maxSteps := 500000) (disch := first | decide | omega) only [↓preS, ↓reduceIte, allS, Nat.reduceBEq, Nat.reduceAdd, Nat.reduceEqDiff, reduceIte, Int.reduceToNat, Int.reduceLE, Int.reduceLT, Nat.reduceLeDiff, Nat.reduceMul, Nat.reducePow, Nat.reduceLT, Int.reduceBEq, Int.reduceBNe, Int.reduceAdd, Int.reduceSub, Int.reduceMul, Int.reduceGT, Int.reduceGE, decS, Int.reduceNe, Int.reduceEq]
      refine aw_loopS (σ := Nat) (fun i => ⟨[(1, .int .i64 again), (5, .ref 0 0 0), (6, .int .i64 (l.length : Int)), (13, .int .i64 ((i : Int) + 1))], [.box [.sl false 1 [.str []], .sl false 3 ([q0].map QUE), .sl false 8 (l.map NODE), .nils, .nils, .nils, .nils, .int .i64 0, .int .i64 0, .int .i64 0]]⟩) (fun i => i < l.length) (fun i => l.length - i) 0 ?_ (by omega) ?_
      · (refine Sub.ofL [some 0] rfl (by simp) (by decide) (by simp [partL, AO.ro, AV.ro, AV.roL, names, AO.empty, SB, U8, SI, I64, STR] <;> (try and_intros) <;> rfl) (by simp [AO.bo, AV.bo, AV.boL, names] <;> (try and_intros) <;> rfl) ?_ <;> (try simp only [List.map_cons, List.map_nil, regsL, AV.ro, AV.roL, AV.bo, AV.boL, names, get_here, get_there, Nat.reduceBEq, List.getD_cons_zero, List.getD_cons_succ, List.getD_nil, and_true, true_and, Nat.reduceLT, List.length_cons, List.length_nil, Nat.reduceAdd, decide_true, Option.isSome_some, Bool.true_or, Bool.and_self, Option.isSome_none, Bool.false_or, beq_self_eq_true, wk0_self, wk0_nils]) <;> (try and_intros) <;> (first | done | rfl | exact .inl rfl | exact .inr ⟨rfl, _, _, rfl⟩ | (simp; done) | (simp; omega) | (refine .inl ?_; simp; done) | (refine .inl ?_; simp; omega)))
      intro j hj
      unfold cc3l0
      by_cases hjl : j + 1 < l.length
      · have hg0 : l.getD j default = l[j] := by simp [hj]
        have hg1 : l.getD (j + 1) default = l[j + 1] := by simp [hjl]
        have hlt : l[j].id < l[j + 1].id := List.pairwise_iff_getElem.1 inv.so j (j + 1) hj hjl (by omega)
        have t1 : ((j : Int) + 1 - 1).toNat = j := by omega
        have t2 : ((j : Int) + 1).toNat = j + 1 := by omega
        simp -implicitDefEqProofs (maxSteps := 500000) (disch := first | decide | omega) only [↓preS, ↓reduceIte, allS, Nat.reduceBEq, Nat.reduceAdd, Nat.reduceEqDiff, reduceIte, Int.reduceToNat, Int.reduceLE, Int.reduceLT, Nat.reduceLeDiff, Nat.reduceMul, Nat.reducePow, Nat.reduceLT, Int.reduceBEq, Int.reduceBNe, Int.reduceAdd, Int.reduceSub, Int.reduceMul, Int.reduceGT, Int.reduceGE, decS, Int.reduceNe, Int.reduceEq, nodeS, nodeD, t1, t2, hg0, hg1]
        refine ⟨by omega, by omega, by omega, by omega, j + 1, ?_, by omega, by omega⟩
        (refine Sub.ofL [some 0] rfl (by simp) (by decide) (by simp [partL, AO.ro, AV.ro, AV.roL, names, AO.empty, SB, U8, SI, I64, STR] <;> (try and_intros) <;> rfl) (by simp [AO.bo, AV.bo, AV.boL, names] <;> (try and_intros) <;> rfl) ?_ <;> (try simp only [List.map_cons, List.map_nil, regsL, AV.ro, AV.roL, AV.bo, AV.boL, names, get_here, get_there, Nat.reduceBEq, List.getD_cons_zero, List.getD_cons_succ, List.getD_nil, and_true, true_and, Nat.reduceLT, List.length_cons, List.length_nil, Nat.reduceAdd, decide_true, Option.isSome_some, Bool.true_or, Bool.and_self, Option.isSome_none, Bool.false_or, beq_self_eq_true, wk0_self, wk0_nils]) <;> (try and_intros) <;> (first | done | rfl | exact .inl rfl | exact .inr ⟨rfl, _, _, rfl⟩ | (simp; done) | (simp; omega) | (refine .inl ?_; simp; done) | (refine .inl ?_; simp; omega)))
      · simp -implicitDefEqProofs (maxSteps := 500000) (disch := first | decide | omega) only [↓preS, ↓reduceIte, allS, Nat.reduceBEq, Nat.reduceAdd, Nat.reduceEqDiff, reduceIte, Int.reduceToNat, Int.reduceLE, Int.reduceLT, Nat.reduceLeDiff, Nat.reduceMul, Nat.reducePow, Nat.reduceLT, Int.reduceBEq, Int.reduceBNe, Int.reduceAdd, Int.reduceSub, Int.reduceMul, Int.reduceGT, Int.reduceGE, decS, Int.reduceNe, Int.reduceEq]
        have w := win_rng again (l.length : Int) (by omega)
        refine acK_of (FCall.of (lent := false) (within_ok again (l.length : Int) (by omega) (by omega)) (.refl rfl) rfl (by simp)) ?_
        generalize win again (l.length : Int) = k at w
        have hk : k.toNat < l.length := by omega
        have hgk : l.getD k.toNat default = l[k.toNat] := by simp [hk]
        have ra := reg_again inv k.toNat hk
        have hx := inv.al _ (List.getElem_mem hk)
        have ok : OkN ⟨l[k.toNat].id, 0, 9, 0, 0, 0, 0, false⟩ := ⟨hx.2.1, by have := hx.2.2; simp only; omega, rfl, by simp, by simp, by simp, by simp, by simp, by simp⟩
        have hl2 : l.set k.toNat (offN l[k.toNat]) ≠ [] := by simpa using hl0
        have r := reg_ok false true [q0] qC0 (l.set k.toNat (offN l[k.toNat])) hl2 (by simp; omega) 0 _ ok
        rw [ra] at r
        simp only at r
        have hg2 : (l.set k.toNat { l[k.toNat] with up := false }).getD k.toNat default = { l[k.toNat] with up := false } := by simp [List.getD_eq_getElem?_getD, hk]
        have hset : (l.set k.toNat { l[k.toNat] with up := false }).set k.toNat { l[k.toNat] with up := false, beat := 7 } = l.set k.toNat (offN l[k.toNat]) := by rw [List.set_set]; rfl
        have hg3 : (l.set k.toNat (offN l[k.toNat])).getD k.toNat default = offN l[k.toNat] := by simp [List.getD_eq_getElem?_getD, hk]
        simp -implicitDefEqProofs (maxSteps := 500000) (disch := first | decide | omega) only [↓preS, ↓reduceIte, allS, Nat.reduceBEq, Nat.reduceAdd, Nat.reduceEqDiff, reduceIte, Int.reduceToNat, Int.reduceLE, Int.reduceLT, Nat.reduceLeDiff, Nat.reduceMul, Nat.reducePow, Nat.reduceLT, Int.reduceBEq, Int.reduceBNe, Int.reduceAdd, Int.reduceSub, Int.reduceMul, Int.reduceGT, Int.reduceGE, decS, Int.reduceNe, Int.reduceEq, nodeS, nodeD, hgk, hg2, hg3, offN_id, hset, List.append_nil, List.length_set, fillOk, fillAV]
        have hg4 : ((l.set k.toNat (offN l[k.toNat])).set k.toNat ⟨l[k.toNat].id, 0, 9, 0, 0, 0, 0, true⟩).getD k.toNat default = ⟨l[k.toNat].id, 0, 9, 0, 0, 0, 0, true⟩ := by simp [List.getD_eq_getElem?_getD, hk]
        have hv : ∀ H : List AO, H[2]? = some (.arr 8 ((l.set k.toNat (offN l[k.toNat])).map NODE)) → Vws true H [.agg (stC (.sl false 3 ([q0].map QUE)) (.own 2 8 0 l.length) 0), NODE ⟨l[k.toNat].id, 0, 9, 0, 0, 0, 0, false⟩] [.agg (stC (.sl false 3 ([q0].map QUE)) (.sl true 8 ((l.set k.toNat (offN l[k.toNat])).map NODE)) 0), NODE ⟨l[k.toNat].id, 0, 9, 0, 0, 0, 0, false⟩] :=
          fun H hH => .cons (bor_ln hH (by simp)) (.cons (Vw.refl rfl) .nil)
        repeat' first
          | omega
          | (refine acK_of (FCall.of (lent := true) r (hv _ rfl) rfl (fun _ => rfl)) ?_
             unfold stC
             simp -implicitDefEqProofs (maxSteps := 500000) (disch := first | decide | omega) only [↓preS, ↓reduceIte, allS, Nat.reduceBEq, Nat.reduceAdd, Nat.reduceEqDiff, reduceIte, Int.reduceToNat, Int.reduceLE, Int.reduceLT, Nat.reduceLeDiff, Nat.reduceMul, Nat.reducePow, Nat.reduceLT, Int.reduceBEq, Int.reduceBNe, Int.reduceAdd, Int.reduceSub, Int.reduceMul, Int.reduceGT, Int.reduceGE, decS, Int.reduceNe, Int.reduceEq, nodeS, nodeD, hgk, hg2, hg3, hg4, offN_id, hset, List.append_nil, List.length_set, fillOk, fillAV])
          | apply And.intro)
end Go.Proofs.Ytlgdinihbomlpaa
