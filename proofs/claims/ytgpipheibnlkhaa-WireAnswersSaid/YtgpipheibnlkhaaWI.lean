/- What functions of the program compute. No condition. -/
import Derived.Test.YtgpipheibnlkhaaWCd2
import Derived.Test.YtgpipheibnlkhaaL4
set_option linter.unusedSimpArgs false
set_option linter.unusedVariables false
namespace Go.Proofs.Ytgpipheibnlkhaa
open Go Go.Ab

/-- An ask, an input, as data. -/
structure Ask where
  (prio label mem cores count node rack missed : Int)
  deriving DecidableEq, Inhabited
structure Inp where
  (kind id beat n : Int)
  (text : List UInt8)
  (nId nLab nRack nMem nCor nSeen nBeat : Int)
  (nUp : Bool)
  (aId aState : Int)
  (aQ : List UInt8)
  (aUser aPrio aMem aCor : Int)
  (aAsks : List Ask)
  (aSeen aBeat : Int)
  (aG aK aT aL : List Int)
  (asks : List Ask)
  (ids : List Int)
  (pId pLab pFrom pUntil pMem pCor : Int)

def ASK (a : Ask) : AV := .agg [.int .i64 a.prio, .int .i64 a.label, .int .i64 a.mem, .int .i64 a.cores, .int .i64 a.count, .int .i64 a.node, .int .i64 a.rack, .int .i64 a.missed]
def inpC (x : Inp) : List AV := [.int .i64 x.kind, .int .i64 x.id, .int .i64 x.beat, .int .i64 x.n, .str x.text, .int .i64 x.nId, .int .i64 x.nLab, .int .i64 x.nRack, .int .i64 x.nMem, .int .i64 x.nCor, .int .i64 x.nSeen, .int .i64 x.nBeat, .bool x.nUp,
  .int .i64 x.aId, .int .i64 x.aState, .str x.aQ, .int .i64 x.aUser, .int .i64 x.aPrio, .int .i64 x.aMem, .int .i64 x.aCor, .sl false 8 (x.aAsks.map ASK), .int .i64 x.aSeen, .int .i64 x.aBeat, .sl false 1 (x.aG.map I64), .sl false 1 (x.aK.map I64), .sl false 1 (x.aT.map I64), .sl false 1 (x.aL.map I64),
  .sl false 8 (x.asks.map ASK), .sl false 1 (x.ids.map I64), .int .i64 x.pId, .int .i64 x.pLab, .int .i64 x.pFrom, .int .i64 x.pUntil, .int .i64 x.pMem, .int .i64 x.pCor]
def INP (x : Inp) : AV := .agg (inpC x)

theorem inpC_0 (x : Inp) : partOf (inpC x) 0 1 false = .int .i64 x.kind := rfl
theorem inpC_1 (x : Inp) : partOf (inpC x) 1 1 false = .int .i64 x.id := rfl
theorem inpC_2 (x : Inp) : partOf (inpC x) 2 1 false = .int .i64 x.beat := rfl
theorem inpC_3 (x : Inp) : partOf (inpC x) 3 1 false = .int .i64 x.n := rfl
theorem inpC_4 (x : Inp) : partOf (inpC x) 4 1 false = .str x.text := rfl
theorem inpC_5 (x : Inp) : partOf (inpC x) 5 1 false = .int .i64 x.nId := rfl
theorem inpC_6 (x : Inp) : partOf (inpC x) 6 1 false = .int .i64 x.nLab := rfl
theorem inpC_7 (x : Inp) : partOf (inpC x) 7 1 false = .int .i64 x.nRack := rfl
theorem inpC_8 (x : Inp) : partOf (inpC x) 8 1 false = .int .i64 x.nMem := rfl
theorem inpC_9 (x : Inp) : partOf (inpC x) 9 1 false = .int .i64 x.nCor := rfl
theorem inpC_10 (x : Inp) : partOf (inpC x) 10 1 false = .int .i64 x.nSeen := rfl
theorem inpC_11 (x : Inp) : partOf (inpC x) 11 1 false = .int .i64 x.nBeat := rfl
theorem inpC_12 (x : Inp) : partOf (inpC x) 12 1 false = .bool x.nUp := rfl
theorem inpC_13 (x : Inp) : partOf (inpC x) 13 1 false = .int .i64 x.aId := rfl
theorem inpC_14 (x : Inp) : partOf (inpC x) 14 1 false = .int .i64 x.aState := rfl
theorem inpC_15 (x : Inp) : partOf (inpC x) 15 1 false = .str x.aQ := rfl
theorem inpC_16 (x : Inp) : partOf (inpC x) 16 1 false = .int .i64 x.aUser := rfl
theorem inpC_17 (x : Inp) : partOf (inpC x) 17 1 false = .int .i64 x.aPrio := rfl
theorem inpC_18 (x : Inp) : partOf (inpC x) 18 1 false = .int .i64 x.aMem := rfl
theorem inpC_19 (x : Inp) : partOf (inpC x) 19 1 false = .int .i64 x.aCor := rfl
theorem inpC_20 (x : Inp) : partOf (inpC x) 20 1 false = .sl false 8 (x.aAsks.map ASK) := rfl
theorem inpC_21 (x : Inp) : partOf (inpC x) 21 1 false = .int .i64 x.aSeen := rfl
theorem inpC_22 (x : Inp) : partOf (inpC x) 22 1 false = .int .i64 x.aBeat := rfl
theorem inpC_23 (x : Inp) : partOf (inpC x) 23 1 false = .sl false 1 (x.aG.map I64) := rfl
theorem inpC_24 (x : Inp) : partOf (inpC x) 24 1 false = .sl false 1 (x.aK.map I64) := rfl
theorem inpC_25 (x : Inp) : partOf (inpC x) 25 1 false = .sl false 1 (x.aT.map I64) := rfl
theorem inpC_26 (x : Inp) : partOf (inpC x) 26 1 false = .sl false 1 (x.aL.map I64) := rfl
theorem inpC_27 (x : Inp) : partOf (inpC x) 27 1 false = .sl false 8 (x.asks.map ASK) := rfl
theorem inpC_28 (x : Inp) : partOf (inpC x) 28 1 false = .sl false 1 (x.ids.map I64) := rfl
theorem inpC_29 (x : Inp) : partOf (inpC x) 29 1 false = .int .i64 x.pId := rfl
theorem inpC_30 (x : Inp) : partOf (inpC x) 30 1 false = .int .i64 x.pLab := rfl
theorem inpC_31 (x : Inp) : partOf (inpC x) 31 1 false = .int .i64 x.pFrom := rfl
theorem inpC_32 (x : Inp) : partOf (inpC x) 32 1 false = .int .i64 x.pUntil := rfl
theorem inpC_33 (x : Inp) : partOf (inpC x) 33 1 false = .int .i64 x.pMem := rfl
theorem inpC_34 (x : Inp) : partOf (inpC x) 34 1 false = .int .i64 x.pCor := rfl
theorem inpC_all (x : Inp) : partOf (inpC x) 0 35 true = INP x := rfl
theorem inpC_node (x : Inp) : partOf (inpC x) 5 8 true = .agg [.int .i64 x.nId, .int .i64 x.nLab, .int .i64 x.nRack, .int .i64 x.nMem, .int .i64 x.nCor, .int .i64 x.nSeen, .int .i64 x.nBeat, .bool x.nUp] := rfl
theorem inpC_app (x : Inp) : partOf (inpC x) 13 14 true = .agg [.int .i64 x.aId, .int .i64 x.aState, .str x.aQ, .int .i64 x.aUser, .int .i64 x.aPrio, .int .i64 x.aMem, .int .i64 x.aCor, .sl false 8 (x.aAsks.map ASK), .int .i64 x.aSeen, .int .i64 x.aBeat, .sl false 1 (x.aG.map I64), .sl false 1 (x.aK.map I64), .sl false 1 (x.aT.map I64), .sl false 1 (x.aL.map I64)] := rfl
theorem inpC_plan (x : Inp) : partOf (inpC x) 29 6 true = .agg [.int .i64 x.pId, .int .i64 x.pLab, .int .i64 x.pFrom, .int .i64 x.pUntil, .int .i64 x.pMem, .int .i64 x.pCor] := rfl
theorem inpC_ncap (x : Inp) : partOf (inpC x) 8 2 true = .agg [.int .i64 x.nMem, .int .i64 x.nCor] := rfl
theorem inpC_amst (x : Inp) : partOf (inpC x) 18 2 true = .agg [.int .i64 x.aMem, .int .i64 x.aCor] := rfl
theorem inpC_len (x : Inp) : (inpC x).length = 35 := rfl
theorem inpC_one (x : Inp) : (inpC x).all AV.one = true := rfl
theorem inpC_ro (x : Inp) (ρ : Nat → Option Nat) : AV.roL ρ (inpC x) = inpC x := rfl
theorem inpC_bo (x : Inp) (ρ : Nat → Option Nat) (n : Nat) : AV.boL ρ n (inpC x) = true := rfl
theorem inpC_drop (x : Inp) : (inpC x).drop 35 = [] := rfl
attribute [simp] inpC_ro inpC_bo
theorem INP_cells (x : Inp) : (INP x).cells = inpC x := rfl
theorem nxt_inp {P : Program} {d : Bool} {t : Nat} {l : List COper} {r : Regs} {L : St → Prop} {Lp : AV → St → Prop} {x : Inp} {H : List AO} : nxt P d t l r L Lp (INP x) H = opsK P d l ⟨(t, INP x) :: r, H⟩ L Lp := rfl
set_option linter.defProp false in
def inpS := And.intro @inpC_amst (And.intro @inpC_node (And.intro @inpC_app (And.intro @inpC_plan (And.intro @inpC_ncap (And.intro @inpC_all (And.intro @inpC_len (And.intro @inpC_one (And.intro @inpC_drop (And.intro @INP_cells (And.intro @nxt_inp (And.intro @inpC_0 (And.intro @inpC_1 (And.intro @inpC_2 (And.intro @inpC_3 (And.intro @inpC_4 (And.intro @inpC_5 (And.intro @inpC_6 (And.intro @inpC_7 (And.intro @inpC_8 (And.intro @inpC_9 (And.intro @inpC_10 (And.intro @inpC_11 (And.intro @inpC_12 (And.intro @inpC_13 (And.intro @inpC_14 (And.intro @inpC_15 (And.intro @inpC_16 (And.intro @inpC_17 (And.intro @inpC_18 (And.intro @inpC_19 (And.intro @inpC_20 (And.intro @inpC_21 (And.intro @inpC_22 (And.intro @inpC_23 (And.intro @inpC_24 (And.intro @inpC_25 (And.intro @inpC_26 (And.intro @inpC_27 (And.intro @inpC_28 (And.intro @inpC_29 (And.intro @inpC_30 (And.intro @inpC_31 (And.intro @inpC_32 (And.intro @inpC_33 @inpC_34))))))))))))))))))))))))))))))))))))))))))))

/-- Lengths such as a machine has. -/
structure Inp.Len (x : Inp) : Prop where
  text : x.text.length < 2 ^ 63
  aQ : x.aQ.length < 2 ^ 63
  asks : x.asks.length < 2 ^ 63
  ids : x.ids.length < 2 ^ 63

def wrongI (x : Inp) : Int :=
  if x.kind < 1 ∨ 11 < x.kind then 3
  else if (x.kind = 1 ∧ 2000 < x.text.length) ∨ (x.kind = 4 ∧ 2000 < x.aQ.length) then 5
  else if (x.kind = 5 ∧ 20 < x.asks.length) ∨ ((x.kind = 5 ∨ x.kind = 3) ∧ 100 < x.ids.length) then 4 else 0

set_option maxRecDepth 20000 in
set_option maxHeartbeats 1000000 in
theorem wrong_ok (x : Inp) : PCall Try.prog 31 [INP x] (.int .i64 (wrongI x)) := by
  unfold PCall
  refine acall_of is31 (by simp) ?_
  unfold cc31 INP inpC
  generalize hw : wrongI x = w
  by_cases k1 : x.kind < 1
  · have : w = 3 := by rw [← hw]; unfold wrongI; rw [if_pos (.inl k1)]
    subst this
    simp -implicitDefEqProofs (maxSteps := 500000) (disch := first | decide | omega) only [↓preS, ↓reduceIte, allS, Nat.reduceBEq, Nat.reduceAdd, Nat.reduceEqDiff, reduceIte, Int.reduceToNat, Int.reduceLE, Int.reduceLT, Nat.reduceLeDiff, Nat.reduceMul, Nat.reducePow, Nat.reduceLT, Int.reduceBEq, Int.reduceBNe, Int.reduceAdd, Int.reduceSub, Int.reduceMul, Int.reduceGT, Int.reduceGE, decS, Int.reduceNe, Int.reduceEq, partOf]
  by_cases k2 : 11 < x.kind
  · have : w = 3 := by rw [← hw]; unfold wrongI; rw [if_pos (.inr k2)]
    subst this
    simp -implicitDefEqProofs (maxSteps := 500000) (disch := first | decide | omega) only [↓preS, ↓reduceIte, allS, Nat.reduceBEq, Nat.reduceAdd, Nat.reduceEqDiff, reduceIte, Int.reduceToNat, Int.reduceLE, Int.reduceLT, Nat.reduceLeDiff, Nat.reduceMul, Nat.reducePow, Nat.reduceLT, Int.reduceBEq, Int.reduceBNe, Int.reduceAdd, Int.reduceSub, Int.reduceMul, Int.reduceGT, Int.reduceGE, decS, Int.reduceNe, Int.reduceEq, partOf]
  unfold wrongI at hw
  rw [if_neg (by omega)] at hw
  have kc : (x.kind = 1 ∧ 2000 < x.text.length) ∨ (x.kind = 1 ∧ ¬ 2000 < x.text.length) ∨ (x.kind = 4 ∧ 2000 < x.aQ.length) ∨ (x.kind = 4 ∧ ¬ 2000 < x.aQ.length) ∨
    (x.kind = 5 ∧ 20 < x.asks.length) ∨ (x.kind = 5 ∧ ¬ 20 < x.asks.length ∧ 100 < x.ids.length) ∨ (x.kind = 5 ∧ ¬ 20 < x.asks.length ∧ ¬ 100 < x.ids.length) ∨ (x.kind = 3 ∧ 100 < x.ids.length) ∨ (x.kind = 3 ∧ ¬ 100 < x.ids.length) ∨ (x.kind ≠ 1 ∧ x.kind ≠ 3 ∧ x.kind ≠ 4 ∧ x.kind ≠ 5) := by omega
  rcases kc with ⟨h1, h2⟩ | ⟨h1, h2⟩ | ⟨h1, h2⟩ | ⟨h1, h2⟩ | ⟨h1, h2⟩ | ⟨h1, h2, h3⟩ | ⟨h1, h2, h3⟩ | ⟨h1, h2⟩ | ⟨h1, h2⟩ | ⟨h1, h2, h3, h4⟩
  · rw [if_pos (by omega)] at hw; subst hw; simp -implicitDefEqProofs (maxSteps := 500000) (disch := first | decide | omega) only [↓preS, ↓reduceIte, allS, Nat.reduceBEq, Nat.reduceAdd, Nat.reduceEqDiff, reduceIte, Int.reduceToNat, Int.reduceLE, Int.reduceLT, Nat.reduceLeDiff, Nat.reduceMul, Nat.reducePow, Nat.reduceLT, Int.reduceBEq, Int.reduceBNe, Int.reduceAdd, Int.reduceSub, Int.reduceMul, Int.reduceGT, Int.reduceGE, decS, Int.reduceNe, Int.reduceEq, partOf]
  · rw [if_neg (by omega), if_neg (by omega)] at hw; subst hw; simp -implicitDefEqProofs (maxSteps := 500000) (disch := first | decide | omega) only [↓preS, ↓reduceIte, allS, Nat.reduceBEq, Nat.reduceAdd, Nat.reduceEqDiff, reduceIte, Int.reduceToNat, Int.reduceLE, Int.reduceLT, Nat.reduceLeDiff, Nat.reduceMul, Nat.reducePow, Nat.reduceLT, Int.reduceBEq, Int.reduceBNe, Int.reduceAdd, Int.reduceSub, Int.reduceMul, Int.reduceGT, Int.reduceGE, decS, Int.reduceNe, Int.reduceEq, partOf]
  · rw [if_pos (by omega)] at hw; subst hw; simp -implicitDefEqProofs (maxSteps := 500000) (disch := first | decide | omega) only [↓preS, ↓reduceIte, allS, Nat.reduceBEq, Nat.reduceAdd, Nat.reduceEqDiff, reduceIte, Int.reduceToNat, Int.reduceLE, Int.reduceLT, Nat.reduceLeDiff, Nat.reduceMul, Nat.reducePow, Nat.reduceLT, Int.reduceBEq, Int.reduceBNe, Int.reduceAdd, Int.reduceSub, Int.reduceMul, Int.reduceGT, Int.reduceGE, decS, Int.reduceNe, Int.reduceEq, partOf]
  · rw [if_neg (by omega), if_neg (by omega)] at hw; subst hw; simp -implicitDefEqProofs (maxSteps := 500000) (disch := first | decide | omega) only [↓preS, ↓reduceIte, allS, Nat.reduceBEq, Nat.reduceAdd, Nat.reduceEqDiff, reduceIte, Int.reduceToNat, Int.reduceLE, Int.reduceLT, Nat.reduceLeDiff, Nat.reduceMul, Nat.reducePow, Nat.reduceLT, Int.reduceBEq, Int.reduceBNe, Int.reduceAdd, Int.reduceSub, Int.reduceMul, Int.reduceGT, Int.reduceGE, decS, Int.reduceNe, Int.reduceEq, partOf]
  · rw [if_neg (by omega), if_pos (by omega)] at hw; subst hw; simp -implicitDefEqProofs (maxSteps := 500000) (disch := first | decide | omega) only [↓preS, ↓reduceIte, allS, Nat.reduceBEq, Nat.reduceAdd, Nat.reduceEqDiff, reduceIte, Int.reduceToNat, Int.reduceLE, Int.reduceLT, Nat.reduceLeDiff, Nat.reduceMul, Nat.reducePow, Nat.reduceLT, Int.reduceBEq, Int.reduceBNe, Int.reduceAdd, Int.reduceSub, Int.reduceMul, Int.reduceGT, Int.reduceGE, decS, Int.reduceNe, Int.reduceEq, partOf]
  · rw [if_neg (by omega), if_pos (by omega)] at hw; subst hw; simp -implicitDefEqProofs (maxSteps := 500000) (disch := first | decide | omega) only [↓preS, ↓reduceIte, allS, Nat.reduceBEq, Nat.reduceAdd, Nat.reduceEqDiff, reduceIte, Int.reduceToNat, Int.reduceLE, Int.reduceLT, Nat.reduceLeDiff, Nat.reduceMul, Nat.reducePow, Nat.reduceLT, Int.reduceBEq, Int.reduceBNe, Int.reduceAdd, Int.reduceSub, Int.reduceMul, Int.reduceGT, Int.reduceGE, decS, Int.reduceNe, Int.reduceEq, partOf]
  · rw [if_neg (by omega), if_neg (by omega)] at hw; subst hw; simp -implicitDefEqProofs (maxSteps := 500000) (disch := first | decide | omega) only [↓preS, ↓reduceIte, allS, Nat.reduceBEq, Nat.reduceAdd, Nat.reduceEqDiff, reduceIte, Int.reduceToNat, Int.reduceLE, Int.reduceLT, Nat.reduceLeDiff, Nat.reduceMul, Nat.reducePow, Nat.reduceLT, Int.reduceBEq, Int.reduceBNe, Int.reduceAdd, Int.reduceSub, Int.reduceMul, Int.reduceGT, Int.reduceGE, decS, Int.reduceNe, Int.reduceEq, partOf]
  · rw [if_neg (by omega), if_pos (by omega)] at hw; subst hw; simp -implicitDefEqProofs (maxSteps := 500000) (disch := first | decide | omega) only [↓preS, ↓reduceIte, allS, Nat.reduceBEq, Nat.reduceAdd, Nat.reduceEqDiff, reduceIte, Int.reduceToNat, Int.reduceLE, Int.reduceLT, Nat.reduceLeDiff, Nat.reduceMul, Nat.reducePow, Nat.reduceLT, Int.reduceBEq, Int.reduceBNe, Int.reduceAdd, Int.reduceSub, Int.reduceMul, Int.reduceGT, Int.reduceGE, decS, Int.reduceNe, Int.reduceEq, partOf]
  · rw [if_neg (by omega), if_neg (by omega)] at hw; subst hw; simp -implicitDefEqProofs (maxSteps := 500000) (disch := first | decide | omega) only [↓preS, ↓reduceIte, allS, Nat.reduceBEq, Nat.reduceAdd, Nat.reduceEqDiff, reduceIte, Int.reduceToNat, Int.reduceLE, Int.reduceLT, Nat.reduceLeDiff, Nat.reduceMul, Nat.reducePow, Nat.reduceLT, Int.reduceBEq, Int.reduceBNe, Int.reduceAdd, Int.reduceSub, Int.reduceMul, Int.reduceGT, Int.reduceGE, decS, Int.reduceNe, Int.reduceEq, partOf]
  · rw [if_neg (by omega), if_neg (by omega)] at hw; subst hw; simp -implicitDefEqProofs (maxSteps := 500000) (disch := first | decide | omega) only [↓preS, ↓reduceIte, allS, Nat.reduceBEq, Nat.reduceAdd, Nat.reduceEqDiff, reduceIte, Int.reduceToNat, Int.reduceLE, Int.reduceLT, Nat.reduceLeDiff, Nat.reduceMul, Nat.reducePow, Nat.reduceLT, Int.reduceBEq, Int.reduceBNe, Int.reduceAdd, Int.reduceSub, Int.reduceMul, Int.reduceGT, Int.reduceGE, decS, Int.reduceNe, Int.reduceEq, partOf]
end Go.Proofs.Ytgpipheibnlkhaa
