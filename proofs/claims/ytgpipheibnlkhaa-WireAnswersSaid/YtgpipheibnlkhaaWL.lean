/- What functions of the program compute. No condition. -/
import Derived.Test.YtgpipheibnlkhaaWK
set_option linter.unusedSimpArgs false
set_option linter.unusedVariables false
namespace Go.Proofs.Ytgpipheibnlkhaa
open Go Go.Ab

def zInp (k : Int) : Inp := ⟨k, 0, 0, 0, [], 0, 0, 0, 0, 0, 0, 0, false, 0, 0, [], 0, 0, 0, 0, [], 0, 0, [], [], [], [], [], [], 0, 0, 0, 0, 0, 0⟩
/-- As code lays it: no slice where there is nothing. -/
def inpZ (k : Int) : List AV := [.int .i64 k, .int .i64 0, .int .i64 0, .int .i64 0, .str [], .int .i64 0, .int .i64 0, .int .i64 0, .int .i64 0, .int .i64 0, .int .i64 0, .int .i64 0, .bool false,
  .int .i64 0, .int .i64 0, .str [], .int .i64 0, .int .i64 0, .int .i64 0, .int .i64 0, .nils, .int .i64 0, .int .i64 0, .nils, .nils, .nils, .nils, .nils, .nils, .int .i64 0, .int .i64 0, .int .i64 0, .int .i64 0, .int .i64 0, .int .i64 0]
theorem inpZ_wk (k : Int) : Wk3 (.agg (inpZ k)) (INP (zInp k)) := by
  refine .inl (.inr ⟨_, _, rfl, rfl, ?_⟩)
  simp [inpZ, inpC, zInp, WkL, Wk1]

theorem known_ok : PCall Try.prog 12 [] (.bool true) := by
  unfold PCall
  refine acall_of is12 (by simp) ?_
  unfold cc12
  simp -implicitDefEqProofs (maxSteps := 500000) (disch := first | decide | omega) only [↓preS, ↓reduceIte, allS, Nat.reduceBEq, Nat.reduceAdd, Nat.reduceEqDiff, reduceIte, Int.reduceToNat, Int.reduceLE, Int.reduceLT, Nat.reduceLeDiff, Nat.reduceMul, Nat.reducePow, Nat.reduceLT, Int.reduceBEq, Int.reduceBNe, Int.reduceAdd, Int.reduceSub, Int.reduceMul, Int.reduceGT, Int.reduceGE, decS, Int.reduceNe, Int.reduceEq, fillOk, fillAV]
  refine acK_of (FCall.of (lent := false) (input_ok (zInp 11)) (.cons (Vw.wk (inpZ_wk 11) rfl) .nil) rfl (by simp)) ?_
  have e : inpR (zInp 11) = .tup [SB [0, 0, 0, 0, 0, 0, 0, 11], .int .i64 0] := by
    have e0 : wrongI (zInp 11) = 0 := by decide
    have e1 : enc (zInp 11) = [0, 0, 0, 0, 0, 0, 0, 11] := by decide
    unfold inpR
    rw [if_pos e0, e1]
  rw [e]
  simp -implicitDefEqProofs (maxSteps := 500000) (disch := first | decide | omega) only [↓preS, ↓reduceIte, allS, Nat.reduceBEq, Nat.reduceAdd, Nat.reduceEqDiff, reduceIte, Int.reduceToNat, Int.reduceLE, Int.reduceLT, Nat.reduceLeDiff, Nat.reduceMul, Nat.reducePow, Nat.reduceLT, Int.reduceBEq, Int.reduceBNe, Int.reduceAdd, Int.reduceSub, Int.reduceMul, Int.reduceGT, Int.reduceGE, decS, Int.reduceNe, Int.reduceEq, SB]
  omega

def fewB (x : Inp) : Bool := decide (x.text.length ≤ 2100) && decide (x.aQ.length ≤ 2100) && decide (x.asks.length ≤ 30) && decide (x.ids.length ≤ 130) &&
  decide (IntKind.i64.wrap (IntKind.i64.wrap (IntKind.i64.wrap (IntKind.i64.wrap ((x.aAsks.length : Int) + x.aG.length) + x.aK.length) + x.aT.length) + x.aL.length) ≤ 50)

set_option maxRecDepth 20000 in
set_option maxHeartbeats 1000000 in
theorem few_ok (x : Inp) : PCall Try.prog 13 [INP x] (.bool (fewB x)) := by
  unfold PCall
  refine acall_of is13 (by simp) ?_
  unfold cc13
  by_cases h1 : x.text.length ≤ 2100
  · by_cases h2 : x.aQ.length ≤ 2100
    · by_cases h3 : x.asks.length ≤ 30
      · by_cases h4 : x.ids.length ≤ 130
        · simp -implicitDefEqProofs (maxSteps := 500000) (disch := first | decide | omega) only [↓preS, ↓reduceIte, allS, Nat.reduceBEq, Nat.reduceAdd, Nat.reduceEqDiff, reduceIte, Int.reduceToNat, Int.reduceLE, Int.reduceLT, Nat.reduceLeDiff, Nat.reduceMul, Nat.reducePow, Nat.reduceLT, Int.reduceBEq, Int.reduceBNe, Int.reduceAdd, Int.reduceSub, Int.reduceMul, Int.reduceGT, Int.reduceGE, decS, Int.reduceNe, Int.reduceEq, inpS, ik]
          simp only [fewB, h1, h2, h3, h4, decide_true, Bool.true_and]
        · simp -implicitDefEqProofs (maxSteps := 500000) (disch := first | decide | omega) only [↓preS, ↓reduceIte, allS, Nat.reduceBEq, Nat.reduceAdd, Nat.reduceEqDiff, reduceIte, Int.reduceToNat, Int.reduceLE, Int.reduceLT, Nat.reduceLeDiff, Nat.reduceMul, Nat.reducePow, Nat.reduceLT, Int.reduceBEq, Int.reduceBNe, Int.reduceAdd, Int.reduceSub, Int.reduceMul, Int.reduceGT, Int.reduceGE, decS, Int.reduceNe, Int.reduceEq, inpS]
          simp only [fewB, h4, decide_false, Bool.and_false, Bool.false_and]
      · simp -implicitDefEqProofs (maxSteps := 500000) (disch := first | decide | omega) only [↓preS, ↓reduceIte, allS, Nat.reduceBEq, Nat.reduceAdd, Nat.reduceEqDiff, reduceIte, Int.reduceToNat, Int.reduceLE, Int.reduceLT, Nat.reduceLeDiff, Nat.reduceMul, Nat.reducePow, Nat.reduceLT, Int.reduceBEq, Int.reduceBNe, Int.reduceAdd, Int.reduceSub, Int.reduceMul, Int.reduceGT, Int.reduceGE, decS, Int.reduceNe, Int.reduceEq, inpS]
        simp only [fewB, h3, decide_false, Bool.and_false, Bool.false_and]
    · simp -implicitDefEqProofs (maxSteps := 500000) (disch := first | decide | omega) only [↓preS, ↓reduceIte, allS, Nat.reduceBEq, Nat.reduceAdd, Nat.reduceEqDiff, reduceIte, Int.reduceToNat, Int.reduceLE, Int.reduceLT, Nat.reduceLeDiff, Nat.reduceMul, Nat.reducePow, Nat.reduceLT, Int.reduceBEq, Int.reduceBNe, Int.reduceAdd, Int.reduceSub, Int.reduceMul, Int.reduceGT, Int.reduceGE, decS, Int.reduceNe, Int.reduceEq, inpS]
      simp only [fewB, h2, decide_false, Bool.and_false, Bool.false_and]
  · simp -implicitDefEqProofs (maxSteps := 500000) (disch := first | decide | omega) only [↓preS, ↓reduceIte, allS, Nat.reduceBEq, Nat.reduceAdd, Nat.reduceEqDiff, reduceIte, Int.reduceToNat, Int.reduceLE, Int.reduceLT, Nat.reduceLeDiff, Nat.reduceMul, Nat.reducePow, Nat.reduceLT, Int.reduceBEq, Int.reduceBNe, Int.reduceAdd, Int.reduceSub, Int.reduceMul, Int.reduceGT, Int.reduceGE, decS, Int.reduceNe, Int.reduceEq, inpS]
    simp only [fewB, h1, decide_false, Bool.and_false, Bool.false_and]

theorem fewB_spec {x : Inp} (h : fewB x = true) : x.text.length ≤ 2100 ∧ x.aQ.length ≤ 2100 ∧ x.asks.length ≤ 30 ∧ x.ids.length ≤ 130 := by
  simp only [fewB, Bool.and_eq_true, decide_eq_true_eq] at h
  exact ⟨h.1.1.1.1, h.1.1.1.2, h.1.1.2, h.1.2⟩

def goodI (x : Inp) : Inp := { x with kind := 1 + win x.kind 11, text := x.text.take 300, aQ := x.aQ.take 60, asks := x.asks.take 20, ids := x.ids.take 100 }

theorem win_rng (a n : Int) (h : 0 < n) : 0 ≤ win a n ∧ win a n < n := by
  have h3 := Int.lt_tmod_of_pos a h
  have h4 := Int.tmod_lt_of_pos a h
  unfold win
  split <;> omega

theorem mm_cap (m n : Nat) {k : IntKind} {K : AV → Prop} : mmK false k (n : Int) [.int k (m : Int)] K = K (.int k ((min m n : Nat) : Int)) := by
  simp only [mmK, true_and]
  congr 2
  simp only [Bool.false_eq_true, if_false]
  omega

theorem tk_cap {α : Type} (m : Nat) (l : List α) : l.take (min m l.length) = l.take m := by
  rw [List.take_eq_take_iff]
  omega

set_option maxRecDepth 20000 in
set_option maxHeartbeats 1000000 in
theorem good_ok (x : Inp) (hx : x.Len) : PCall Try.prog 14 [INP x] (INP (goodI x)) := by
  unfold PCall
  refine acallR_of isR14 (by simp) ?_
  obtain ⟨l1, l2, l3, l4⟩ := hx
  have w := win_rng x.kind 11 (by omega)
  have c1 : ∀ {n : Nat} {k : IntKind} {K : AV → Prop}, mmK false k (n : Int) [.int k 300] K = K (.int k ((min 300 n : Nat) : Int)) := mm_cap 300 _
  have c2 : ∀ {n : Nat} {k : IntKind} {K : AV → Prop}, mmK false k (n : Int) [.int k 60] K = K (.int k ((min 60 n : Nat) : Int)) := mm_cap 60 _
  have c3 : ∀ {n : Nat} {k : IntKind} {K : AV → Prop}, mmK false k (n : Int) [.int k 20] K = K (.int k ((min 20 n : Nat) : Int)) := mm_cap 20 _
  have c4 : ∀ {n : Nat} {k : IntKind} {K : AV → Prop}, mmK false k (n : Int) [.int k 100] K = K (.int k ((min 100 n : Nat) : Int)) := mm_cap 100 _
  unfold cc14 INP inpC
  simp -implicitDefEqProofs (maxSteps := 500000) (disch := first | decide | omega) only [↓preS, ↓reduceIte, allS, Nat.reduceBEq, Nat.reduceAdd, Nat.reduceEqDiff, reduceIte, Int.reduceToNat, Int.reduceLE, Int.reduceLT, Nat.reduceLeDiff, Nat.reduceMul, Nat.reducePow, Nat.reduceLT, Int.reduceBEq, Int.reduceBNe, Int.reduceAdd, Int.reduceSub, Int.reduceMul, Int.reduceGT, Int.reduceGE, decS, Int.reduceNe, Int.reduceEq, partOf]
  refine acK_of (FCall.of (lent := false) (within_ok x.kind 11 (by omega) (by omega)) (.refl rfl) rfl (by simp)) ?_
  generalize hw : win x.kind 11 = v at w
  simp -implicitDefEqProofs (maxSteps := 500000) (disch := first | decide | omega) only [↓preS, ↓reduceIte, allS, Nat.reduceBEq, Nat.reduceAdd, Nat.reduceEqDiff, reduceIte, Int.reduceToNat, Int.reduceLE, Int.reduceLT, Nat.reduceLeDiff, Nat.reduceMul, Nat.reducePow, Nat.reduceLT, Int.reduceBEq, Int.reduceBNe, Int.reduceAdd, Int.reduceSub, Int.reduceMul, Int.reduceGT, Int.reduceGE, decS, Int.reduceNe, Int.reduceEq, partOf, c1, c2, c3, c4, tk_cap]
  refine ⟨by omega, by omega, by omega, by omega, by omega, by omega, by omega, by omega, by omega, by omega, by omega, by omega, ?_⟩
  subst hw
  rfl
end Go.Proofs.Ytgpipheibnlkhaa
