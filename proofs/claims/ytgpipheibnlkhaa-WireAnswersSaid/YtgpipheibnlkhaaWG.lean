/- What functions of the program compute. No condition. -/
import Derived.Test.YtgpipheibnlkhaaWO2
set_option linter.unusedSimpArgs false
set_option linter.unusedVariables false
namespace Go.Proofs.Ytgpipheibnlkhaa
open Go Go.Ab

/-- An array of one's own that is handed on is let stand for good first. -/
theorem acK_frz {P : Program} {f : FuncId} {args : List AV} {H : List AO} {K Kp : AV → List AO → Prop} (j : Nat) {z : Nat} {l : List AV} (hj : H[j]? = some (.arr z l)) (h : acK P f (args.map (AV.fz j z l)) (H.set j .dead) K Kp) : acK P f args H K Kp :=
  ⟨h.1, fun E vs hm hl hv => by
    obtain ⟨g1, g2, g3, g4⟩ := stand_ok hm hj
    have key := h.2 (E.stand j) vs g1 (by simp [hl]) fun k y hk => by
      rw [List.getElem?_map] at hk
      cases hc : args[k]? with
      | none => rw [hc] at hk; simp at hk
      | some a =>
        rw [hc] at hk
        simp only [Option.map_some, Option.some.injEq] at hk
        subst hk
        rw [List.length_set]
        exact fz_vr hm hj (hv k a hc)
    rw [g3] at key
    refine key.mono fun e w' q => ?_
    rcases q with ⟨v, y, H', E', h1, h2, h3, h4, h5, h6⟩ | ⟨v, y, H', E', h1, h2, h3, h4, h5, h6⟩
    · exact .inl ⟨v, y, H', E', h1, h2, h3, h4, g2.trans (by rw [List.length_set] at h5; exact h5), h6⟩
    · exact .inr ⟨v, y, H', E', h1, h2, h3, h4, g2.trans (by rw [List.length_set] at h5; exact h5), h6⟩⟩

set_option maxRecDepth 20000 in
set_option maxHeartbeats 1000000 in
theorem xwrong_ok (x : Inp) : PCall Try.prog 39 [INP x] (.int .i64 (wrongI x)) := by
  unfold PCall
  refine acall_of is39 (by simp) ?_
  unfold cc39
  generalize hw : wrongI x = w
  by_cases k1 : x.kind < 1
  · have : w = 3 := by rw [← hw]; unfold wrongI; rw [if_pos (.inl k1)]
    subst this
    simp -implicitDefEqProofs (maxSteps := 500000) (disch := first | decide | omega) only [↓preS, ↓reduceIte, allS, Nat.reduceBEq, Nat.reduceAdd, Nat.reduceEqDiff, reduceIte, Int.reduceToNat, Int.reduceLE, Int.reduceLT, Nat.reduceLeDiff, Nat.reduceMul, Nat.reducePow, Nat.reduceLT, Int.reduceBEq, Int.reduceBNe, Int.reduceAdd, Int.reduceSub, Int.reduceMul, Int.reduceGT, Int.reduceGE, decS, Int.reduceNe, Int.reduceEq, inpS]
  by_cases k2 : 11 < x.kind
  · have : w = 3 := by rw [← hw]; unfold wrongI; rw [if_pos (.inr k2)]
    subst this
    simp -implicitDefEqProofs (maxSteps := 500000) (disch := first | decide | omega) only [↓preS, ↓reduceIte, allS, Nat.reduceBEq, Nat.reduceAdd, Nat.reduceEqDiff, reduceIte, Int.reduceToNat, Int.reduceLE, Int.reduceLT, Nat.reduceLeDiff, Nat.reduceMul, Nat.reducePow, Nat.reduceLT, Int.reduceBEq, Int.reduceBNe, Int.reduceAdd, Int.reduceSub, Int.reduceMul, Int.reduceGT, Int.reduceGE, decS, Int.reduceNe, Int.reduceEq, inpS]
  unfold wrongI at hw
  rw [if_neg (by omega)] at hw
  have kc : (x.kind = 1 ∧ 2000 < x.text.length) ∨ (x.kind = 1 ∧ ¬ 2000 < x.text.length) ∨ (x.kind = 4 ∧ 2000 < x.aQ.length) ∨ (x.kind = 4 ∧ ¬ 2000 < x.aQ.length) ∨
    (x.kind = 5 ∧ 20 < x.asks.length) ∨ (x.kind = 5 ∧ ¬ 20 < x.asks.length ∧ 100 < x.ids.length) ∨ (x.kind = 5 ∧ ¬ 20 < x.asks.length ∧ ¬ 100 < x.ids.length) ∨ (x.kind = 3 ∧ 100 < x.ids.length) ∨ (x.kind = 3 ∧ ¬ 100 < x.ids.length) ∨ (x.kind ≠ 1 ∧ x.kind ≠ 3 ∧ x.kind ≠ 4 ∧ x.kind ≠ 5) := by omega
  rcases kc with ⟨h1, h2⟩ | ⟨h1, h2⟩ | ⟨h1, h2⟩ | ⟨h1, h2⟩ | ⟨h1, h2⟩ | ⟨h1, h2, h3⟩ | ⟨h1, h2, h3⟩ | ⟨h1, h2⟩ | ⟨h1, h2⟩ | ⟨h1, h2, h3, h4⟩
  · rw [if_pos (by omega)] at hw; subst hw; simp -implicitDefEqProofs (maxSteps := 500000) (disch := first | decide | omega) only [↓preS, ↓reduceIte, allS, Nat.reduceBEq, Nat.reduceAdd, Nat.reduceEqDiff, reduceIte, Int.reduceToNat, Int.reduceLE, Int.reduceLT, Nat.reduceLeDiff, Nat.reduceMul, Nat.reducePow, Nat.reduceLT, Int.reduceBEq, Int.reduceBNe, Int.reduceAdd, Int.reduceSub, Int.reduceMul, Int.reduceGT, Int.reduceGE, decS, Int.reduceNe, Int.reduceEq, inpS]
  · rw [if_neg (by omega), if_neg (by omega)] at hw; subst hw; simp -implicitDefEqProofs (maxSteps := 500000) (disch := first | decide | omega) only [↓preS, ↓reduceIte, allS, Nat.reduceBEq, Nat.reduceAdd, Nat.reduceEqDiff, reduceIte, Int.reduceToNat, Int.reduceLE, Int.reduceLT, Nat.reduceLeDiff, Nat.reduceMul, Nat.reducePow, Nat.reduceLT, Int.reduceBEq, Int.reduceBNe, Int.reduceAdd, Int.reduceSub, Int.reduceMul, Int.reduceGT, Int.reduceGE, decS, Int.reduceNe, Int.reduceEq, inpS]
  · rw [if_pos (by omega)] at hw; subst hw; simp -implicitDefEqProofs (maxSteps := 500000) (disch := first | decide | omega) only [↓preS, ↓reduceIte, allS, Nat.reduceBEq, Nat.reduceAdd, Nat.reduceEqDiff, reduceIte, Int.reduceToNat, Int.reduceLE, Int.reduceLT, Nat.reduceLeDiff, Nat.reduceMul, Nat.reducePow, Nat.reduceLT, Int.reduceBEq, Int.reduceBNe, Int.reduceAdd, Int.reduceSub, Int.reduceMul, Int.reduceGT, Int.reduceGE, decS, Int.reduceNe, Int.reduceEq, inpS]
  · rw [if_neg (by omega), if_neg (by omega)] at hw; subst hw; simp -implicitDefEqProofs (maxSteps := 500000) (disch := first | decide | omega) only [↓preS, ↓reduceIte, allS, Nat.reduceBEq, Nat.reduceAdd, Nat.reduceEqDiff, reduceIte, Int.reduceToNat, Int.reduceLE, Int.reduceLT, Nat.reduceLeDiff, Nat.reduceMul, Nat.reducePow, Nat.reduceLT, Int.reduceBEq, Int.reduceBNe, Int.reduceAdd, Int.reduceSub, Int.reduceMul, Int.reduceGT, Int.reduceGE, decS, Int.reduceNe, Int.reduceEq, inpS]
  · rw [if_neg (by omega), if_pos (by omega)] at hw; subst hw; simp -implicitDefEqProofs (maxSteps := 500000) (disch := first | decide | omega) only [↓preS, ↓reduceIte, allS, Nat.reduceBEq, Nat.reduceAdd, Nat.reduceEqDiff, reduceIte, Int.reduceToNat, Int.reduceLE, Int.reduceLT, Nat.reduceLeDiff, Nat.reduceMul, Nat.reducePow, Nat.reduceLT, Int.reduceBEq, Int.reduceBNe, Int.reduceAdd, Int.reduceSub, Int.reduceMul, Int.reduceGT, Int.reduceGE, decS, Int.reduceNe, Int.reduceEq, inpS]
  · rw [if_neg (by omega), if_pos (by omega)] at hw; subst hw; simp -implicitDefEqProofs (maxSteps := 500000) (disch := first | decide | omega) only [↓preS, ↓reduceIte, allS, Nat.reduceBEq, Nat.reduceAdd, Nat.reduceEqDiff, reduceIte, Int.reduceToNat, Int.reduceLE, Int.reduceLT, Nat.reduceLeDiff, Nat.reduceMul, Nat.reducePow, Nat.reduceLT, Int.reduceBEq, Int.reduceBNe, Int.reduceAdd, Int.reduceSub, Int.reduceMul, Int.reduceGT, Int.reduceGE, decS, Int.reduceNe, Int.reduceEq, inpS]
  · rw [if_neg (by omega), if_neg (by omega)] at hw; subst hw; simp -implicitDefEqProofs (maxSteps := 500000) (disch := first | decide | omega) only [↓preS, ↓reduceIte, allS, Nat.reduceBEq, Nat.reduceAdd, Nat.reduceEqDiff, reduceIte, Int.reduceToNat, Int.reduceLE, Int.reduceLT, Nat.reduceLeDiff, Nat.reduceMul, Nat.reducePow, Nat.reduceLT, Int.reduceBEq, Int.reduceBNe, Int.reduceAdd, Int.reduceSub, Int.reduceMul, Int.reduceGT, Int.reduceGE, decS, Int.reduceNe, Int.reduceEq, inpS]
  · rw [if_neg (by omega), if_pos (by omega)] at hw; subst hw; simp -implicitDefEqProofs (maxSteps := 500000) (disch := first | decide | omega) only [↓preS, ↓reduceIte, allS, Nat.reduceBEq, Nat.reduceAdd, Nat.reduceEqDiff, reduceIte, Int.reduceToNat, Int.reduceLE, Int.reduceLT, Nat.reduceLeDiff, Nat.reduceMul, Nat.reducePow, Nat.reduceLT, Int.reduceBEq, Int.reduceBNe, Int.reduceAdd, Int.reduceSub, Int.reduceMul, Int.reduceGT, Int.reduceGE, decS, Int.reduceNe, Int.reduceEq, inpS]
  · rw [if_neg (by omega), if_neg (by omega)] at hw; subst hw; simp -implicitDefEqProofs (maxSteps := 500000) (disch := first | decide | omega) only [↓preS, ↓reduceIte, allS, Nat.reduceBEq, Nat.reduceAdd, Nat.reduceEqDiff, reduceIte, Int.reduceToNat, Int.reduceLE, Int.reduceLT, Nat.reduceLeDiff, Nat.reduceMul, Nat.reducePow, Nat.reduceLT, Int.reduceBEq, Int.reduceBNe, Int.reduceAdd, Int.reduceSub, Int.reduceMul, Int.reduceGT, Int.reduceGE, decS, Int.reduceNe, Int.reduceEq, inpS]
  · rw [if_neg (by omega), if_neg (by omega)] at hw; subst hw; simp -implicitDefEqProofs (maxSteps := 500000) (disch := first | decide | omega) only [↓preS, ↓reduceIte, allS, Nat.reduceBEq, Nat.reduceAdd, Nat.reduceEqDiff, reduceIte, Int.reduceToNat, Int.reduceLE, Int.reduceLT, Nat.reduceLeDiff, Nat.reduceMul, Nat.reducePow, Nat.reduceLT, Int.reduceBEq, Int.reduceBNe, Int.reduceAdd, Int.reduceSub, Int.reduceMul, Int.reduceGT, Int.reduceGE, decS, Int.reduceNe, Int.reduceEq, inpS]

end Go.Proofs.Ytgpipheibnlkhaa
