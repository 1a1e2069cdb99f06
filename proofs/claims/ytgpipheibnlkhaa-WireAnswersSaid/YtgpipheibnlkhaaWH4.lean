/- What functions of the program compute. No condition. -/
import Derived.Test.YtgpipheibnlkhaaWH3
set_option linter.unusedSimpArgs false
set_option linter.unusedVariables false
namespace Go.Proofs.Ytgpipheibnlkhaa
open Go Go.Ab

set_option maxRecDepth 20000 in
set_option maxHeartbeats 4000000 in
theorem loop20 (at_ : List Int) (bs raw : List UInt8) (cut : Int) (x0 : List UInt8) (hx : x0.length ≤ 2 ^ 40) (Q : AE → St → Prop)
    (h : ∀ xs : List UInt8, xs.length = x0.length → Q .normal ⟨[(3, .int .i64 cut), (4, SB raw), (11, .own 0 1 0 x0.length)], [.arr 1 (xs.map U8)]⟩) (d : AO) :
    aw Try.prog cc20L0 Q ⟨[(1, SI at_), (2, SB bs), (3, .int .i64 cut), (4, SB raw), (11, .own 1 1 0 x0.length), (12, .int .i64 0)], [d, .arr 1 (x0.map U8)]⟩ := by
  unfold cc20L0
  simp -implicitDefEqProofs (maxSteps := 500000) (disch := first | decide | omega) only [↓preS, ↓reduceIte, allS, Nat.reduceBEq, Nat.reduceAdd, Nat.reduceEqDiff, reduceIte, Int.reduceToNat, Int.reduceLE, Int.reduceLT, Nat.reduceLeDiff, Nat.reduceMul, Nat.reducePow, Nat.reduceLT, Int.reduceBEq, Int.reduceBNe, Int.reduceAdd, Int.reduceSub, Int.reduceMul, Int.reduceGT, Int.reduceGE, decS, Int.reduceNe, Int.reduceEq]
  refine aw_loopS (σ := Nat × List UInt8) (fun q => ⟨[(1, SI at_), (2, SB bs), (3, .int .i64 cut), (4, SB raw), (11, .own 0 1 0 x0.length), (12, .int .i64 (q.1 : Int))], [.arr 1 (q.2.map U8)]⟩)
    (fun q => q.1 ≤ 3 ∧ q.2.length = x0.length) (fun q => 3 - q.1) (0, x0) ?_ ⟨by simp, rfl⟩ ?_
  · simp only
    generalize x0.map U8 = q
    (refine Sub.ofL [some 1] rfl (by simp) (by decide) (by simp [partL, AO.ro, AV.ro, AV.roL, names, AO.empty, SB, U8, SI, I64, STR]) (by simp [AO.bo, AV.bo, AV.boL, names]) ?_ <;> (try simp only [List.map_cons, List.map_nil, regsL, AV.ro, AV.roL, AV.bo, AV.boL, names, get_here, get_there, Nat.reduceBEq, List.getD_cons_zero, List.getD_cons_succ, List.getD_nil, and_true, true_and, Nat.reduceLT, List.length_cons, List.length_nil, Nat.reduceAdd, decide_true, Option.isSome_some, Bool.true_or, Bool.and_self, Option.isSome_none, Bool.false_or, beq_self_eq_true, wk0_self, wk0_nils]) <;> (try and_intros) <;> (first | done | rfl | exact .inl rfl | exact .inr ⟨rfl, _, _, rfl⟩ | (simp; done) | (simp; omega) | (refine .inl ?_; simp; done) | (refine .inl ?_; simp; omega)))
  rintro ⟨i, xs⟩ ⟨hi, hl⟩
  simp only at hi hl
  unfold cc20l0
  have hx := h xs hl
  by_cases h1 : i < at_.length
  · by_cases h2 : i < bs.length
    · by_cases h3 : i < 3
      · by_cases h4 : 0 < x0.length
        · simp -implicitDefEqProofs (maxSteps := 500000) (disch := first | decide | omega) only [↓preS, ↓reduceIte, allS, Nat.reduceBEq, Nat.reduceAdd, Nat.reduceEqDiff, reduceIte, Int.reduceToNat, Int.reduceLE, Int.reduceLT, Nat.reduceLeDiff, Nat.reduceMul, Nat.reducePow, Nat.reduceLT, Int.reduceBEq, Int.reduceBNe, Int.reduceAdd, Int.reduceSub, Int.reduceMul, Int.reduceGT, Int.reduceGE, decS, Int.reduceNe, Int.reduceEq, SI, SB, I64]
          refine ⟨by omega, by omega, by omega, by omega, ?_⟩
          refine acK_of (FCall.of (lent := false) (within_ok (at_.getD i default) x0.length (by omega) (by omega)) (.refl rfl) rfl (by simp)) ?_
          have w := win_rng (at_.getD i default) x0.length (by omega)
          generalize win (at_.getD i default) (x0.length : Int) = v at w
          simp -implicitDefEqProofs (maxSteps := 500000) (disch := first | decide | omega) only [↓preS, ↓reduceIte, allS, Nat.reduceBEq, Nat.reduceAdd, Nat.reduceEqDiff, reduceIte, Int.reduceToNat, Int.reduceLE, Int.reduceLT, Nat.reduceLeDiff, Nat.reduceMul, Nat.reducePow, Nat.reduceLT, Int.reduceBEq, Int.reduceBNe, Int.reduceAdd, Int.reduceSub, Int.reduceMul, Int.reduceGT, Int.reduceGE, decS, Int.reduceNe, Int.reduceEq]
          refine ⟨by omega, by omega, by omega, by omega, by omega, by omega, ?_⟩
          refine ⟨(i + 1, xs.set v.toNat ⟨_⟩), .inl rfl, ⟨by simp only; omega, by simp [hl]⟩, by simp only; omega⟩
        · simp -implicitDefEqProofs (maxSteps := 500000) (disch := first | decide | omega) only [↓preS, ↓reduceIte, allS, Nat.reduceBEq, Nat.reduceAdd, Nat.reduceEqDiff, reduceIte, Int.reduceToNat, Int.reduceLE, Int.reduceLT, Nat.reduceLeDiff, Nat.reduceMul, Nat.reducePow, Nat.reduceLT, Int.reduceBEq, Int.reduceBNe, Int.reduceAdd, Int.reduceSub, Int.reduceMul, Int.reduceGT, Int.reduceGE, decS, Int.reduceNe, Int.reduceEq, SI, SB, I64]
          exact hx
      · simp -implicitDefEqProofs (maxSteps := 500000) (disch := first | decide | omega) only [↓preS, ↓reduceIte, allS, Nat.reduceBEq, Nat.reduceAdd, Nat.reduceEqDiff, reduceIte, Int.reduceToNat, Int.reduceLE, Int.reduceLT, Nat.reduceLeDiff, Nat.reduceMul, Nat.reducePow, Nat.reduceLT, Int.reduceBEq, Int.reduceBNe, Int.reduceAdd, Int.reduceSub, Int.reduceMul, Int.reduceGT, Int.reduceGE, decS, Int.reduceNe, Int.reduceEq, SI, SB, I64]
        exact hx
    · simp -implicitDefEqProofs (maxSteps := 500000) (disch := first | decide | omega) only [↓preS, ↓reduceIte, allS, Nat.reduceBEq, Nat.reduceAdd, Nat.reduceEqDiff, reduceIte, Int.reduceToNat, Int.reduceLE, Int.reduceLT, Nat.reduceLeDiff, Nat.reduceMul, Nat.reducePow, Nat.reduceLT, Int.reduceBEq, Int.reduceBNe, Int.reduceAdd, Int.reduceSub, Int.reduceMul, Int.reduceGT, Int.reduceGE, decS, Int.reduceNe, Int.reduceEq, SI, SB, I64]
      exact hx
  · simp -implicitDefEqProofs (maxSteps := 500000) (disch := first | decide | omega) only [↓preS, ↓reduceIte, allS, Nat.reduceBEq, Nat.reduceAdd, Nat.reduceEqDiff, reduceIte, Int.reduceToNat, Int.reduceLE, Int.reduceLT, Nat.reduceLeDiff, Nat.reduceMul, Nat.reducePow, Nat.reduceLT, Int.reduceBEq, Int.reduceBNe, Int.reduceAdd, Int.reduceSub, Int.reduceMul, Int.reduceGT, Int.reduceGE, decS, Int.reduceNe, Int.reduceEq, SI, SB, I64]
    exact hx

def rows3 (r0 r1 raw : List UInt8) : AV := .sl false 1 [SB r0, SB r1, SB raw]
def PostB (b raw : List UInt8) (y : AV) (G : List AO) : Prop := ∃ r0 r1, y = rows3 r0 r1 raw ∧ r0.length ≤ b.length ∧ r1.length ≤ b.length + raw.length

set_option maxRecDepth 20000 in
set_option maxHeartbeats 4000000 in
theorem bend_ok (b : List UInt8) (at_ : List Int) (bs : List UInt8) (cut : Int) (raw : List UInt8) (hb : b.length ≤ 2 ^ 39) (hr : raw.length ≤ 500) : ACall Try.prog 20 [SB b, SI at_, SB bs, .int .i64 cut, SB raw] [] (PostB b raw) := by
  refine acall_of is20 (by simp) ?_
  unfold cc20
  have hq : rows3 = fun r0 r1 raw => .sl false 1 [SB r0, SB r1, SB raw] := rfl
  simp -implicitDefEqProofs (maxSteps := 500000) (disch := first | decide | omega) only [↓preS, ↓reduceIte, allS, Nat.reduceBEq, Nat.reduceAdd, Nat.reduceEqDiff, reduceIte, Int.reduceToNat, Int.reduceLE, Int.reduceLT, Nat.reduceLeDiff, Nat.reduceMul, Nat.reducePow, Nat.reduceLT, Int.reduceBEq, Int.reduceBNe, Int.reduceAdd, Int.reduceSub, Int.reduceMul, Int.reduceGT, Int.reduceGE, decS, Int.reduceNe, Int.reduceEq, SB, SI]
  refine ⟨⟨by omega, by omega⟩, ?_⟩
  refine loop20 at_ bs raw cut b (by omega) _ ?_ _
  intro xs hl
  have one : ∀ k : Nat, k ≤ b.length → ∀ y, y = rows3 (xs.take k) (xs.take k ++ raw) raw → ∀ G, PostB b raw y G := fun k hk y hy G => ⟨_, _, hy, by rw [List.length_take]; omega, by rw [List.length_append, List.length_take]; omega⟩
  by_cases hc : cut.tmod 2 = 1
  · simp -implicitDefEqProofs (maxSteps := 500000) (disch := first | decide | omega) only [↓preS, ↓reduceIte, allS, Nat.reduceBEq, Nat.reduceAdd, Nat.reduceEqDiff, reduceIte, Int.reduceToNat, Int.reduceLE, Int.reduceLT, Nat.reduceLeDiff, Nat.reduceMul, Nat.reducePow, Nat.reduceLT, Int.reduceBEq, Int.reduceBNe, Int.reduceAdd, Int.reduceSub, Int.reduceMul, Int.reduceGT, Int.reduceGE, decS, Int.reduceNe, Int.reduceEq, SB, hc]
    refine acK_of (FCall.of (lent := false) (within_ok (IntKind.i64.wrap (cut.tdiv 2)) (b.length + 1) (by omega) (by omega)) (.refl rfl) rfl (by simp)) ?_
    have w := win_rng (IntKind.i64.wrap (cut.tdiv 2)) (b.length + 1) (by omega)
    generalize win (IntKind.i64.wrap (cut.tdiv 2)) (b.length + 1) = v at w
    obtain ⟨v, rfl⟩ : ∃ m : Nat, v = (m : Int) := ⟨v.toNat, by omega⟩
    have hv : v ≤ xs.length := by omega
    simp -implicitDefEqProofs (maxSteps := 500000) (disch := first | decide | omega) only [↓preS, ↓reduceIte, allS, Nat.reduceBEq, Nat.reduceAdd, Nat.reduceEqDiff, reduceIte, Int.reduceToNat, Int.reduceLE, Int.reduceLT, Nat.reduceLeDiff, Nat.reduceMul, Nat.reducePow, Nat.reduceLT, Int.reduceBEq, Int.reduceBNe, Int.reduceAdd, Int.reduceSub, Int.reduceMul, Int.reduceGT, Int.reduceGE, decS, Int.reduceNe, Int.reduceEq, SB, Nat.sub_zero, hv]
    have e1 : (xs.take v ++ raw).take (min v xs.length + raw.length) = xs.take v ++ raw := List.take_of_length_le (by simp)
    have e2 : (xs.take v).take (min v xs.length) = xs.take v := List.take_of_length_le (by simp)
    rw [e2, e1]
    exact ⟨by omega, by omega, by omega, ⟨by omega, by omega⟩, ⟨by omega, by omega⟩, one v (by omega) _ rfl _⟩
  · have hv : b.length ≤ xs.length := by omega
    simp -implicitDefEqProofs (maxSteps := 500000) (disch := first | decide | omega) only [↓preS, ↓reduceIte, allS, Nat.reduceBEq, Nat.reduceAdd, Nat.reduceEqDiff, reduceIte, Int.reduceToNat, Int.reduceLE, Int.reduceLT, Nat.reduceLeDiff, Nat.reduceMul, Nat.reducePow, Nat.reduceLT, Int.reduceBEq, Int.reduceBNe, Int.reduceAdd, Int.reduceSub, Int.reduceMul, Int.reduceGT, Int.reduceGE, decS, Int.reduceNe, Int.reduceEq, SB, hc, hv]
    have e1 : (xs.take b.length ++ raw).take (min b.length xs.length + raw.length) = xs.take b.length ++ raw := List.take_of_length_le (by simp)
    have e2 : (xs.take b.length).take (min b.length xs.length) = xs.take b.length := List.take_of_length_le (by simp)
    rw [e2, e1]
    exact ⟨⟨by omega, by omega⟩, ⟨by omega, by omega⟩, one b.length (by omega) _ rfl _⟩
end Go.Proofs.Ytgpipheibnlkhaa
