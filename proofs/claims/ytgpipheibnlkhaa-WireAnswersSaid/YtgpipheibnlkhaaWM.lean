/- What functions of the program compute. No condition. -/
import Derived.Test.YtgpipheibnlkhaaWL
import Derived.Test.YtgpipheibnlkhaaWR
set_option linter.unusedSimpArgs false
set_option linter.unusedVariables false
namespace Go.Proofs.Ytgpipheibnlkhaa
open Go Go.Ab

structure Good (g : Inp) : Prop where
  k1 : 1 ≤ g.kind
  k2 : g.kind ≤ 11
  text : g.text.length ≤ 300
  aQ : g.aQ.length ≤ 60
  asks : g.asks.length ≤ 20
  ids : g.ids.length ≤ 100

theorem goodI_good (x : Inp) : Good (goodI x) := by
  have w := win_rng x.kind 11 (by omega)
  refine ⟨?_, ?_, ?_, ?_, ?_, ?_⟩ <;> simp only [goodI, List.length_take] <;> omega

theorem Good.wrong {g : Inp} (h : Good g) : wrongI g = 0 := by
  obtain ⟨h1, h2, h3, h4, h5, h6⟩ := h
  unfold wrongI
  rw [if_neg (by omega), if_neg (by omega), if_neg (by omega)]

def lenI (x : Inp) : Int :=
  if x.kind = 1 then 10 + x.text.length
  else if x.kind = 2 then 48
  else if x.kind = 3 then 26 + 8 * x.ids.length
  else if x.kind = 4 then 50 + x.aQ.length
  else if x.kind = 5 then 34 + 56 * x.asks.length + 8 * x.ids.length
  else if x.kind = 6 ∨ x.kind = 7 ∨ x.kind = 10 ∨ x.kind = 8 then 16
  else if x.kind = 9 then 64 else 8

theorem asks_len (l : List Ask) : (l.flatMap fun a => ints [a.prio, a.label, a.mem, a.cores, a.count, a.node, a.rack]).length = 56 * l.length := by
  induction l with
  | nil => rfl
  | cons a l ih => rw [List.flatMap_cons, List.length_append, ints_len, ih, List.length_cons]; simp; omega
theorem textL_len2 (s : List UInt8) (h : s.length ≤ 65535) : (textL s).length = 2 + s.length := by
  unfold textL
  rw [List.take_of_length_le h, List.length_append, be_len]
theorem intsL_len2 (s : List Int) (h : s.length ≤ 65535) : (intsL s).length = 2 + 8 * s.length := by
  unfold intsL
  rw [List.take_of_length_le h, List.length_append, be_len, flat8_len]

theorem Good.enc_len {g : Inp} (h : Good g) : ((enc g).length : Int) = lenI g := by
  obtain ⟨h1, h2, h3, h4, h5, h6⟩ := h
  unfold enc body lenI
  rw [List.length_append, ints_len]
  have a1 := textL_len2 g.text (by omega)
  have a2 := textL_len2 g.aQ (by omega)
  have a3 := intsL_len2 g.ids (by omega)
  have a4 := asks_len g.asks
  by_cases k1 : g.kind = 1
  · simp only [k1, if_true, a1, List.length_cons, List.length_nil]; omega
  by_cases k2 : g.kind = 2
  · simp only [k2, Int.reduceEq, if_true, if_false, ints_len, List.length_cons, List.length_nil]; omega
  by_cases k3 : g.kind = 3
  · simp only [k3, Int.reduceEq, if_true, if_false, List.length_append, ints_len, a3, List.length_cons, List.length_nil]; omega
  by_cases k4 : g.kind = 4
  · simp only [k4, Int.reduceEq, if_true, if_false, List.length_append, ints_len, a2, List.length_cons, List.length_nil]; omega
  by_cases k5 : g.kind = 5
  · simp only [k5, Int.reduceEq, if_true, if_false, List.length_append, ints_len, a3, a4, List.length_cons, List.length_nil]; omega
  by_cases k6 : g.kind = 6 ∨ g.kind = 7 ∨ g.kind = 10
  · have k7 : g.kind = 6 ∨ g.kind = 7 ∨ g.kind = 10 ∨ g.kind = 8 := by omega
    simp only [k1, k2, k3, k4, k5, k6, k7, if_true, if_false, ints_len, List.length_cons, List.length_nil]; omega
  by_cases k8 : g.kind = 8
  · have k7 : g.kind = 6 ∨ g.kind = 7 ∨ g.kind = 10 ∨ g.kind = 8 := by omega
    simp only [k1, k2, k3, k4, k5, k6, k7, k8, if_true, if_false, ints_len, List.length_cons, List.length_nil, or_true, Int.reduceEq, or_false, or_self]; omega
  have k7 : ¬ (g.kind = 6 ∨ g.kind = 7 ∨ g.kind = 10 ∨ g.kind = 8) := by omega
  by_cases k9 : g.kind = 9
  · simp only [k9, Int.reduceEq, or_self, if_true, if_false, ints_len, List.length_cons, List.length_nil]; omega
  · have k7' : ¬ (g.kind = 6 ∨ g.kind = 7 ∨ g.kind = 10 ∨ False) := by rw [or_false]; omega
    simp only [k1, k2, k3, k4, k5, k6, k7', k8, k9, if_true, if_false, List.length_cons, List.length_nil]; omega

set_option maxRecDepth 20000 in
set_option maxHeartbeats 2000000 in
theorem lengths_law (x : Inp) (hx : x.Len) : ACall Try.prog 3 [INP x] [] fun y _ => y = .bool true := by
  refine acall_of is3 (by simp) ?_
  unfold cc3
  simp -implicitDefEqProofs (maxSteps := 500000) (disch := first | decide | omega) only [↓preS, ↓reduceIte, allS, Nat.reduceBEq, Nat.reduceAdd, Nat.reduceEqDiff, reduceIte, Int.reduceToNat, Int.reduceLE, Int.reduceLT, Nat.reduceLeDiff, Nat.reduceMul, Nat.reducePow, Nat.reduceLT, Int.reduceBEq, Int.reduceBNe, Int.reduceAdd, Int.reduceSub, Int.reduceMul, Int.reduceGT, Int.reduceGE, decS, Int.reduceNe, Int.reduceEq, inpS, List.append_nil]
  refine acK_of (FCall.of (lent := false) (known_ok) (.refl rfl) rfl (by simp)) ?_
  simp -implicitDefEqProofs (maxSteps := 500000) (disch := first | decide | omega) only [↓preS, ↓reduceIte, allS, Nat.reduceBEq, Nat.reduceAdd, Nat.reduceEqDiff, reduceIte, Int.reduceToNat, Int.reduceLE, Int.reduceLT, Nat.reduceLeDiff, Nat.reduceMul, Nat.reducePow, Nat.reduceLT, Int.reduceBEq, Int.reduceBNe, Int.reduceAdd, Int.reduceSub, Int.reduceMul, Int.reduceGT, Int.reduceGE, decS, Int.reduceNe, Int.reduceEq, inpS, List.append_nil]
  refine acK_of (FCall.of (lent := false) (few_ok x) (.refl rfl) rfl (by simp)) ?_
  simp -implicitDefEqProofs (maxSteps := 500000) (disch := first | decide | omega) only [↓preS, ↓reduceIte, allS, Nat.reduceBEq, Nat.reduceAdd, Nat.reduceEqDiff, reduceIte, Int.reduceToNat, Int.reduceLE, Int.reduceLT, Nat.reduceLeDiff, Nat.reduceMul, Nat.reducePow, Nat.reduceLT, Int.reduceBEq, Int.reduceBNe, Int.reduceAdd, Int.reduceSub, Int.reduceMul, Int.reduceGT, Int.reduceGE, decS, Int.reduceNe, Int.reduceEq, inpS, List.append_nil]
  refine cK_split (fun hb => ?_) (fun hb => ?_)
  · simp -implicitDefEqProofs (maxSteps := 500000) (disch := first | decide | omega) only [↓preS, ↓reduceIte, allS, Nat.reduceBEq, Nat.reduceAdd, Nat.reduceEqDiff, reduceIte, Int.reduceToNat, Int.reduceLE, Int.reduceLT, Nat.reduceLeDiff, Nat.reduceMul, Nat.reducePow, Nat.reduceLT, Int.reduceBEq, Int.reduceBNe, Int.reduceAdd, Int.reduceSub, Int.reduceMul, Int.reduceGT, Int.reduceGE, decS, Int.reduceNe, Int.reduceEq]
  simp -implicitDefEqProofs (maxSteps := 500000) (disch := first | decide | omega) only [↓preS, ↓reduceIte, allS, Nat.reduceBEq, Nat.reduceAdd, Nat.reduceEqDiff, reduceIte, Int.reduceToNat, Int.reduceLE, Int.reduceLT, Nat.reduceLeDiff, Nat.reduceMul, Nat.reducePow, Nat.reduceLT, Int.reduceBEq, Int.reduceBNe, Int.reduceAdd, Int.reduceSub, Int.reduceMul, Int.reduceGT, Int.reduceGE, decS, Int.reduceNe, Int.reduceEq, inpS, List.append_nil]
  refine acK_of (FCall.of (lent := false) (good_ok x hx) (.refl rfl) rfl (by simp)) ?_
  have hg := goodI_good x
  have hw := hg.wrong
  have hl := hg.enc_len
  generalize goodI x = g at hg hw hl ⊢
  simp -implicitDefEqProofs (maxSteps := 500000) (disch := first | decide | omega) only [↓preS, ↓reduceIte, allS, Nat.reduceBEq, Nat.reduceAdd, Nat.reduceEqDiff, reduceIte, Int.reduceToNat, Int.reduceLE, Int.reduceLT, Nat.reduceLeDiff, Nat.reduceMul, Nat.reducePow, Nat.reduceLT, Int.reduceBEq, Int.reduceBNe, Int.reduceAdd, Int.reduceSub, Int.reduceMul, Int.reduceGT, Int.reduceGE, decS, Int.reduceNe, Int.reduceEq, inpS, List.append_nil]
  have c := input_ok g
  rw [show inpR g = .tup [SB (enc g), .int .i64 0] from if_pos hw] at c
  refine acK_of (FCall.of (lent := false) (c) (.refl rfl) rfl (by simp)) ?_
  generalize enc g = w at hl
  obtain ⟨g1, g2, g3, g4, g5, g6⟩ := hg
  simp -implicitDefEqProofs (maxSteps := 500000) (disch := first | decide | omega) only [↓preS, ↓reduceIte, allS, Nat.reduceBEq, Nat.reduceAdd, Nat.reduceEqDiff, reduceIte, Int.reduceToNat, Int.reduceLE, Int.reduceLT, Nat.reduceLeDiff, Nat.reduceMul, Nat.reducePow, Nat.reduceLT, Int.reduceBEq, Int.reduceBNe, Int.reduceAdd, Int.reduceSub, Int.reduceMul, Int.reduceGT, Int.reduceGE, decS, Int.reduceNe, Int.reduceEq, inpS, SB, List.append_nil]
  have kc : g.kind = 1 ∨ g.kind = 2 ∨ g.kind = 3 ∨ g.kind = 4 ∨ g.kind = 5 ∨ g.kind = 6 ∨ g.kind = 7 ∨ g.kind = 8 ∨ g.kind = 9 ∨ g.kind = 10 ∨ g.kind = 11 := by omega
  rcases kc with k | k | k | k | k | k | k | k | k | k | k <;>
  · simp only [lenI, k, Int.reduceEq, if_true, if_false, or_true, true_or, or_false, or_self, false_or] at hl
    simp -implicitDefEqProofs (maxSteps := 500000) (disch := first | decide | omega) only [↓preS, ↓reduceIte, allS, Nat.reduceBEq, Nat.reduceAdd, Nat.reduceEqDiff, reduceIte, Int.reduceToNat, Int.reduceLE, Int.reduceLT, Nat.reduceLeDiff, Nat.reduceMul, Nat.reducePow, Nat.reduceLT, Int.reduceBEq, Int.reduceBNe, Int.reduceAdd, Int.reduceSub, Int.reduceMul, Int.reduceGT, Int.reduceGE, decS, Int.reduceNe, Int.reduceEq, inpS, k, hl]
end Go.Proofs.Ytgpipheibnlkhaa
