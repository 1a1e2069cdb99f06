/- What functions of the program compute. No condition. -/
import Derived.Test.YtcplpegahpmnjaaDoorU1
set_option linter.unusedSimpArgs false
set_option linter.unusedVariables false
namespace Go.Proofs.YtcplpegahpmnjaaDoor
open Go Go.Ab

/-! ### RuleNames -/
def someS : List UInt8 := [97, 98, 122, 48, 49, 57, 45]
theorem some_ok : ∀ k : Nat, k < 7 → (someS.drop k).take 1 = [someS.getD k 0] ∧ okc (someS.getD k 0) = true := by decide
theorem cb1 {c : UInt8} {K : AV → Prop} : cbsK (some [AV.int .u8 (c.toNat : Int)]) K = K (.str [c]) := cbs_map (l := [c])
theorem bq1 : (true == true) = true := rfl
theorem bq2 : (false == false) = true := rfl
theorem bq3 : (true == false) = false := rfl
theorem bq4 : (false == true) = false := rfl
set_option maxHeartbeats 16000000 in
theorem names_law (l : List Int) (hl : l.length < 2 ^ 63) (bad : UInt8) (at_ : Int) : ACall Tryd.prog 4 [.sl false 1 (l.map I64), .int .u8 bad.toNat, .int .i64 at_] [] fun y _ => y = .bool true := by
  refine acall_of is4 (by simp) ?_
  unfold cc4
  simp -implicitDefEqProofs (maxSteps := 500000) (disch := first | decide | omega) only [↓preS, ↓reduceIte, allS, Nat.reduceBEq, Nat.reduceAdd, Nat.reduceEqDiff, reduceIte, Int.reduceToNat, Int.reduceLE, Int.reduceLT, Nat.reduceLeDiff, Nat.reduceMul, Nat.reducePow, Nat.reduceLT, Int.reduceBEq, Int.reduceBNe, Int.reduceAdd, Int.reduceSub, Int.reduceMul, Int.reduceGT, Int.reduceGE, decS, Int.reduceNe, Int.reduceEq]
  refine acK_of (FCall.of (lent := false) (known_ok) (.refl rfl) rfl (by simp)) ?_
  simp -implicitDefEqProofs (maxSteps := 500000) (disch := first | decide | omega) only [↓preS, ↓reduceIte, allS, Nat.reduceBEq, Nat.reduceAdd, Nat.reduceEqDiff, reduceIte, Int.reduceToNat, Int.reduceLE, Int.reduceLT, Nat.reduceLeDiff, Nat.reduceMul, Nat.reducePow, Nat.reduceLT, Int.reduceBEq, Int.reduceBNe, Int.reduceAdd, Int.reduceSub, Int.reduceMul, Int.reduceGT, Int.reduceGE, decS, Int.reduceNe, Int.reduceEq]
  unfold cc4L0
  simp -implicitDefEqProofs (maxSteps := 500000) (disch := first | decide | omega) only [↓preS, ↓reduceIte, allS, Nat.reduceBEq, Nat.reduceAdd, Nat.reduceEqDiff, reduceIte, Int.reduceToNat, Int.reduceLE, Int.reduceLT, Nat.reduceLeDiff, Nat.reduceMul, Nat.reducePow, Nat.reduceLT, Int.reduceBEq, Int.reduceBNe, Int.reduceAdd, Int.reduceSub, Int.reduceMul, Int.reduceGT, Int.reduceGE, decS, Int.reduceNe, Int.reduceEq]
  refine aw_loopS (σ := Nat × List UInt8) (fun q => ⟨[(0, .sl false 1 (l.map I64)), (1, .int .u8 bad.toNat), (2, .int .i64 at_), (7, .str someS), (8, .str q.2), (9, .int .i64 (q.1 : Int))], []⟩)
    (fun q => q.1 ≤ l.length ∧ q.1 ≤ 14 ∧ q.2.length = q.1 ∧ ∀ x ∈ q.2, okc x = true) (fun q => 14 - q.1) (0, []) (.inl rfl) ⟨by simp, by simp, rfl, by simp⟩ ?_
  rintro ⟨i, s⟩ ⟨h1, h2, h3, h4⟩
  simp only at h1 h2 h3 h4
  unfold cc4l0
  by_cases hil : i < l.length ∧ i < 14
  · obtain ⟨hil, hi14⟩ := hil
    simp -implicitDefEqProofs (maxSteps := 500000) (disch := first | decide | omega) only [↓preS, ↓reduceIte, allS, Nat.reduceBEq, Nat.reduceAdd, Nat.reduceEqDiff, reduceIte, Int.reduceToNat, Int.reduceLE, Int.reduceLT, Nat.reduceLeDiff, Nat.reduceMul, Nat.reducePow, Nat.reduceLT, Int.reduceBEq, Int.reduceBNe, Int.reduceAdd, Int.reduceSub, Int.reduceMul, Int.reduceGT, Int.reduceGE, decS, Int.reduceNe, Int.reduceEq]
    refine ⟨by omega, by omega, ?_⟩
    have w := win_rng (l.getD i 0) 7 (by omega)
    refine acK_of (FCall.of (lent := false) (within_ok _ 7 (by omega) (by omega)) (.refl rfl) rfl (by simp)) ?_
    generalize win (l.getD i 0) 7 = k at w
    simp -implicitDefEqProofs (maxSteps := 500000) (disch := first | decide | omega) only [↓preS, ↓reduceIte, allS, Nat.reduceBEq, Nat.reduceAdd, Nat.reduceEqDiff, reduceIte, Int.reduceToNat, Int.reduceLE, Int.reduceLT, Nat.reduceLeDiff, Nat.reduceMul, Nat.reducePow, Nat.reduceLT, Int.reduceBEq, Int.reduceBNe, Int.reduceAdd, Int.reduceSub, Int.reduceMul, Int.reduceGT, Int.reduceGE, decS, Int.reduceNe, Int.reduceEq]
    have e1 : (k + 1).toNat = k.toNat + 1 := by omega
    have e2 : someS.length = 7 := rfl
    obtain ⟨e3, e4⟩ := some_ok k.toNat (by omega)
    have e5 : List.drop k.toNat (List.take (k.toNat + 1) someS) = [someS.getD k.toNat 0] := by
      rw [List.drop_take, ← e3]
      congr 1
      omega
    rw [e1, e2, e5]
    refine ⟨by omega, by omega, by omega, by omega, by omega, (i + 1, s ++ [someS.getD k.toNat 0]), .inl rfl, ⟨by simp only; omega, by simp only; omega, by simp [h3], fun x hx => ?_⟩, by simp only; omega⟩
    rcases List.mem_append.1 hx with hx | hx
    · exact h4 x hx
    · rw [List.mem_singleton] at hx
      rw [hx]
      exact e4
  · have hor : ¬ i < l.length ∨ (i < l.length ∧ ¬ i < 14) := by omega
    have w := win_rng at_ ((s.length : Int) + 1) (by omega)
    have cw := within_ok at_ ((s.length : Int) + 1) (by omega) (by omega)
    generalize win at_ ((s.length : Int) + 1) = k at w cw
    have n1 : nameP s = (!s.isEmpty && decide (s.length ≤ 12)) := nameP_end fun j hj => h4 _ (List.getElem_mem hj)
    have n2 : nameP (s.take k.toNat ++ [bad] ++ s.drop k.toNat) = (okc bad && decide (s.length ≤ 11)) := by
      unfold nameP
      have h5 : (s.take k.toNat ++ [bad] ++ s.drop k.toNat).all okc = okc bad := by
        rw [List.all_append, List.all_append]
        have a1 : (s.take k.toNat).all okc = true := List.all_eq_true.2 fun x hx => h4 x (List.mem_of_mem_take hx)
        have a2 : (s.drop k.toNat).all okc = true := List.all_eq_true.2 fun x hx => h4 x (List.mem_of_mem_drop hx)
        rw [a1, a2]
        simp
      have h6 : (s.take k.toNat ++ [bad] ++ s.drop k.toNat).length = s.length + 1 := by simp; omega
      have h7 : (s.take k.toNat ++ [bad] ++ s.drop k.toNat).isEmpty = false := by rw [← Bool.not_eq_true, List.isEmpty_iff]; intro hh; rw [hh] at h6; simp at h6
      rw [h5, h6, h7]
      cases okc bad
      · rfl
      · simp
    have c1 := name_ok s (by omega)
    have c2 := name_ok (s.take k.toNat ++ [bad] ++ s.drop k.toNat) (by simp; omega)
    rw [n1] at c1
    rw [n2] at c2
    have hk := okc_iff bad
    have hb := bad.toNat_lt
    have hlt : (s.take k.toNat ++ [bad] ++ s.drop k.toNat).length = s.length + 1 := by simp; omega
    have hlt2 : (s.take k.toNat).length + 1 + (s.drop k.toNat).length = s.length + 1 := by simp; omega
    have hlen3 : (s.length = 0 ∧ (!s.isEmpty && decide (s.length ≤ 12)) = false ∧ decide (s.length ≤ 11) = true) ∨ ((1 ≤ s.length ∧ s.length ≤ 11) ∧ (!s.isEmpty && decide (s.length ≤ 12)) = true ∧ decide (s.length ≤ 11) = true) ∨
        (s.length = 12 ∧ (!s.isEmpty && decide (s.length ≤ 12)) = true ∧ decide (s.length ≤ 11) = false) ∨ (12 < s.length ∧ (!s.isEmpty && decide (s.length ≤ 12)) = false ∧ decide (s.length ≤ 11) = false) := by
      cases s with
      | nil => exact .inl ⟨rfl, rfl, rfl⟩
      | cons x s =>
        simp only [List.length_cons, List.isEmpty_cons, Bool.not_false, Bool.true_and, decide_eq_true_eq, decide_eq_false_iff_not]
        omega
    clear n1 n2 hl h4 hlt
    rcases hor with h0 | h0 <;> (
    simp -implicitDefEqProofs (maxSteps := 500000) (disch := first | decide | omega) only [↓preS, ↓reduceIte, allS, Nat.reduceBEq, Nat.reduceAdd, Nat.reduceEqDiff, reduceIte, Int.reduceToNat, Int.reduceLE, Int.reduceLT, Nat.reduceLeDiff, Nat.reduceMul, Nat.reducePow, Nat.reduceLT, Int.reduceBEq, Int.reduceBNe, Int.reduceAdd, Int.reduceSub, Int.reduceMul, Int.reduceGT, Int.reduceGE, decS, Int.reduceNe, Int.reduceEq]
    refine acK_of (FCall.of (lent := false) (cw) (.refl rfl) rfl (by simp)) ?_
    rcases (show (bad.toNat < 45 ∨ (45 < bad.toNat ∧ bad.toNat < 48) ∨ (57 < bad.toNat ∧ bad.toNat < 97) ∨ 122 < bad.toNat) ∨ (bad.toNat = 45 ∨ (48 ≤ bad.toNat ∧ bad.toNat ≤ 57) ∨ (97 ≤ bad.toNat ∧ bad.toNat ≤ 122)) by omega) with h | h
    · have hok : okc bad = false := by
        cases hq : okc bad with
        | false => rfl
        | true => have := hk.1 hq; omega
      rw [hok, Bool.false_and] at c2
      clear hk hok
      rcases h with h | h | h | h <;> (
        simp -implicitDefEqProofs (maxSteps := 500000) (disch := first | decide | omega) only [↓preS, ↓reduceIte, allS, Nat.reduceBEq, Nat.reduceAdd, Nat.reduceEqDiff, reduceIte, Int.reduceToNat, Int.reduceLE, Int.reduceLT, Nat.reduceLeDiff, Nat.reduceMul, Nat.reducePow, Nat.reduceLT, Int.reduceBEq, Int.reduceBNe, Int.reduceAdd, Int.reduceSub, Int.reduceMul, Int.reduceGT, Int.reduceGE, decS, Int.reduceNe, Int.reduceEq, cb1]
        repeat (refine And.intro (by first | omega | simp only [List.length_append, List.length_take, List.length_drop, List.length_cons, List.length_nil]; omega) ?_)
        refine acK_of (FCall.of (lent := false) (c1) (.refl rfl) rfl (by simp)) ?_
        rcases hlen3 with ⟨g, g1, g2⟩ | ⟨g, g1, g2⟩ | ⟨g, g1, g2⟩ | ⟨g, g1, g2⟩ <;> (
          first
          | (exfalso; omega)
          | (rw [g1]
             simp -implicitDefEqProofs (maxSteps := 500000) (disch := first | decide | omega) only [↓preS, ↓reduceIte, allS, Nat.reduceBEq, Nat.reduceAdd, Nat.reduceEqDiff, reduceIte, Int.reduceToNat, Int.reduceLE, Int.reduceLT, Nat.reduceLeDiff, Nat.reduceMul, Nat.reducePow, Nat.reduceLT, Int.reduceBEq, Int.reduceBNe, Int.reduceAdd, Int.reduceSub, Int.reduceMul, Int.reduceGT, Int.reduceGE, decS, Int.reduceNe, Int.reduceEq, bq1, bq2, bq3, bq4, Bool.not_false, beq_self_eq_true]
             refine acK_of (FCall.of (lent := false) (c2) (.refl rfl) rfl (by simp)) ?_
             simp -implicitDefEqProofs (maxSteps := 500000) (disch := first | decide | omega) only [↓preS, ↓reduceIte, allS, Nat.reduceBEq, Nat.reduceAdd, Nat.reduceEqDiff, reduceIte, Int.reduceToNat, Int.reduceLE, Int.reduceLT, Nat.reduceLeDiff, Nat.reduceMul, Nat.reducePow, Nat.reduceLT, Int.reduceBEq, Int.reduceBNe, Int.reduceAdd, Int.reduceSub, Int.reduceMul, Int.reduceGT, Int.reduceGE, decS, Int.reduceNe, Int.reduceEq, bq1, bq2, bq3, bq4, Bool.not_false, beq_self_eq_true])))
    · have hok : okc bad = true := hk.2 (by omega)
      rw [hok, Bool.true_and] at c2
      clear hk hok
      rcases h with h | h | h <;> (
        simp -implicitDefEqProofs (maxSteps := 500000) (disch := first | decide | omega) only [↓preS, ↓reduceIte, allS, Nat.reduceBEq, Nat.reduceAdd, Nat.reduceEqDiff, reduceIte, Int.reduceToNat, Int.reduceLE, Int.reduceLT, Nat.reduceLeDiff, Nat.reduceMul, Nat.reducePow, Nat.reduceLT, Int.reduceBEq, Int.reduceBNe, Int.reduceAdd, Int.reduceSub, Int.reduceMul, Int.reduceGT, Int.reduceGE, decS, Int.reduceNe, Int.reduceEq, cb1]
        repeat (refine And.intro (by first | omega | simp only [List.length_append, List.length_take, List.length_drop, List.length_cons, List.length_nil]; omega) ?_)
        refine acK_of (FCall.of (lent := false) (c1) (.refl rfl) rfl (by simp)) ?_
        rcases hlen3 with ⟨g, g1, g2⟩ | ⟨g, g1, g2⟩ | ⟨g, g1, g2⟩ | ⟨g, g1, g2⟩ <;> (
          first
          | (exfalso; omega)
          | (rw [g1]
             simp -implicitDefEqProofs (maxSteps := 500000) (disch := first | decide | omega) only [↓preS, ↓reduceIte, allS, Nat.reduceBEq, Nat.reduceAdd, Nat.reduceEqDiff, reduceIte, Int.reduceToNat, Int.reduceLE, Int.reduceLT, Nat.reduceLeDiff, Nat.reduceMul, Nat.reducePow, Nat.reduceLT, Int.reduceBEq, Int.reduceBNe, Int.reduceAdd, Int.reduceSub, Int.reduceMul, Int.reduceGT, Int.reduceGE, decS, Int.reduceNe, Int.reduceEq, bq1, bq2, bq3, bq4, Bool.not_false, beq_self_eq_true]
             refine acK_of (FCall.of (lent := false) (c2) (.refl rfl) rfl (by simp)) ?_
             rw [g2]
             simp -implicitDefEqProofs (maxSteps := 500000) (disch := first | decide | omega) only [↓preS, ↓reduceIte, allS, Nat.reduceBEq, Nat.reduceAdd, Nat.reduceEqDiff, reduceIte, Int.reduceToNat, Int.reduceLE, Int.reduceLT, Nat.reduceLeDiff, Nat.reduceMul, Nat.reducePow, Nat.reduceLT, Int.reduceBEq, Int.reduceBNe, Int.reduceAdd, Int.reduceSub, Int.reduceMul, Int.reduceGT, Int.reduceGE, decS, Int.reduceNe, Int.reduceEq, bq1, bq2, bq3, bq4, Bool.not_false, beq_self_eq_true, List.length_append, List.length_cons, List.length_nil, hlt2]))))
end Go.Proofs.YtcplpegahpmnjaaDoor
