/- What functions of the program compute. No condition. -/
import Derived.Test.YtlgdinihbomlpaaN5
set_option linter.unusedSimpArgs false
set_option linter.unusedVariables false
namespace Go.Proofs.Ytlgdinihbomlpaa
open Go Go.Ab

theorem find_no (tq tn : Bool) (qs : List Queue) (l : List Node) (now id : Int) (hl : l.length < 2 ^ 63) (h : idxI (idP id) l = -1) : PCall Try.prog 13 [.agg (stC (.sl tq 3 (qs.map QUE)) (.sl tn 8 (l.map NODE)) now), .int .i64 id] (.tup [NODE ⟨0, 0, 0, 0, 0, 0, 0, false⟩, .bool false]) := by
  unfold PCall
  refine acallR_of isR13 (by simp) ?_
  unfold cc13 stC
  simp -implicitDefEqProofs (maxSteps := 500000) (disch := first | decide | omega) only [↓preS, ↓reduceIte, allS, Nat.reduceBEq, Nat.reduceAdd, Nat.reduceEqDiff, reduceIte, Int.reduceToNat, Int.reduceLE, Int.reduceLT, Nat.reduceLeDiff, Nat.reduceMul, Nat.reducePow, Nat.reduceLT, Int.reduceBEq, Int.reduceBNe, Int.reduceAdd, Int.reduceSub, Int.reduceMul, Int.reduceGT, Int.reduceGE, decS, Int.reduceNe, Int.reduceEq]
  refine acK_of (FCall.of (lent := false) (at_ok tq tn qs l now id hl) (.refl rfl) rfl (by simp)) ?_
  rw [h]
  simp -implicitDefEqProofs (maxSteps := 500000) (disch := first | decide | omega) only [↓preS, ↓reduceIte, allS, Nat.reduceBEq, Nat.reduceAdd, Nat.reduceEqDiff, reduceIte, Int.reduceToNat, Int.reduceLE, Int.reduceLT, Nat.reduceLeDiff, Nat.reduceMul, Nat.reducePow, Nat.reduceLT, Int.reduceBEq, Int.reduceBNe, Int.reduceAdd, Int.reduceSub, Int.reduceMul, Int.reduceGT, Int.reduceGE, decS, Int.reduceNe, Int.reduceEq, fillOk, fillAV]
  rfl
def VEC (v : Int × Int) : AV := .agg [.int .i64 v.1, .int .i64 v.2]
theorem used_ok (tq tn : Bool) (qs : List Queue) (l : List Node) (now id : Int) : PCall Try.prog 19 [.agg (stC (.sl tq 3 (qs.map QUE)) (.sl tn 8 (l.map NODE)) now), .int .i64 id] (VEC (0, 0)) := by
  unfold PCall
  refine acallR_of isR19 (by simp) ?_
  unfold cc19 stC VEC
  simp -implicitDefEqProofs (maxSteps := 500000) (disch := first | decide | omega) only [↓preS, ↓reduceIte, allS, Nat.reduceBEq, Nat.reduceAdd, Nat.reduceEqDiff, reduceIte, Int.reduceToNat, Int.reduceLE, Int.reduceLT, Nat.reduceLeDiff, Nat.reduceMul, Nat.reducePow, Nat.reduceLT, Int.reduceBEq, Int.reduceBNe, Int.reduceAdd, Int.reduceSub, Int.reduceMul, Int.reduceGT, Int.reduceGE, decS, Int.reduceNe, Int.reduceEq]
  unfold cc19L0
  simp -implicitDefEqProofs (maxSteps := 500000) (disch := first | decide | omega) only [↓preS, ↓reduceIte, allS, Nat.reduceBEq, Nat.reduceAdd, Nat.reduceEqDiff, reduceIte, Int.reduceToNat, Int.reduceLE, Int.reduceLT, Nat.reduceLeDiff, Nat.reduceMul, Nat.reducePow, Nat.reduceLT, Int.reduceBEq, Int.reduceBNe, Int.reduceAdd, Int.reduceSub, Int.reduceMul, Int.reduceGT, Int.reduceGE, decS, Int.reduceNe, Int.reduceEq]
  refine aw_loopS (σ := Unit) (fun _ => ⟨[(1, .int .i64 id), (4, .ref 1 0 0), (5, .ref 2 0 0), (9, .nils), (10, .int .i64 0), (11, .int .i64 0)], [.box [.sl false 1 [.str []], .sl tq 3 (qs.map QUE), .sl tn 8 (l.map NODE), .nils, .nils, .nils, .nils, .int .i64 now, .int .i64 0, .int .i64 0], .box [.int .i64 0, .int .i64 0], .box [.int .i64 0, .int .i64 0]]⟩) (fun _ => True) (fun _ => 0) () (.inl rfl) trivial ?_
  intro _ _
  unfold cc19l0
  simp -implicitDefEqProofs (maxSteps := 500000) (disch := first | decide | omega) only [↓preS, ↓reduceIte, allS, Nat.reduceBEq, Nat.reduceAdd, Nat.reduceEqDiff, reduceIte, Int.reduceToNat, Int.reduceLE, Int.reduceLT, Nat.reduceLeDiff, Nat.reduceMul, Nat.reducePow, Nat.reduceLT, Int.reduceBEq, Int.reduceBNe, Int.reduceAdd, Int.reduceSub, Int.reduceMul, Int.reduceGT, Int.reduceGE, decS, Int.reduceNe, Int.reduceEq]
theorem free_ok (tq tn : Bool) (qs : List Queue) (l : List Node) (now id : Int) (hl : l.length < 2 ^ 63) (i : Nat) (hi : i < l.length) (h : idxI (idP id) l = (i : Int)) (hu : l[i].up = true) (h1 : 0 ≤ l[i].mem) (h2 : l[i].mem ≤ 2 ^ 30) (h3 : 0 ≤ l[i].cores) (h4 : l[i].cores ≤ 2 ^ 30) :
    PCall Try.prog 14 [.agg (stC (.sl tq 3 (qs.map QUE)) (.sl tn 8 (l.map NODE)) now), .int .i64 id] (VEC (l[i].mem, l[i].cores)) := by
  unfold PCall
  refine acallR_of isR14 (by simp) ?_
  unfold cc14 stC
  simp -implicitDefEqProofs (maxSteps := 500000) (disch := first | decide | omega) only [↓preS, ↓reduceIte, allS, Nat.reduceBEq, Nat.reduceAdd, Nat.reduceEqDiff, reduceIte, Int.reduceToNat, Int.reduceLE, Int.reduceLT, Nat.reduceLeDiff, Nat.reduceMul, Nat.reducePow, Nat.reduceLT, Int.reduceBEq, Int.reduceBNe, Int.reduceAdd, Int.reduceSub, Int.reduceMul, Int.reduceGT, Int.reduceGE, decS, Int.reduceNe, Int.reduceEq]
  refine acK_of (FCall.of (lent := false) (find_ok tq tn qs l now id hl i hi h) (.refl rfl) rfl (by simp)) ?_
  generalize l[i] = x at *
  simp -implicitDefEqProofs (maxSteps := 500000) (disch := first | decide | omega) only [↓preS, ↓reduceIte, allS, Nat.reduceBEq, Nat.reduceAdd, Nat.reduceEqDiff, reduceIte, Int.reduceToNat, Int.reduceLE, Int.reduceLT, Nat.reduceLeDiff, Nat.reduceMul, Nat.reducePow, Nat.reduceLT, Int.reduceBEq, Int.reduceBNe, Int.reduceAdd, Int.reduceSub, Int.reduceMul, Int.reduceGT, Int.reduceGE, decS, Int.reduceNe, Int.reduceEq, nodeS, List.append_nil, hu]
  refine acK_of (FCall.of (lent := false) (used_ok tq tn qs l now id) (.refl rfl) rfl (by simp)) ?_
  unfold VEC
  simp -implicitDefEqProofs (maxSteps := 500000) (disch := first | decide | omega) only [↓preS, ↓reduceIte, allS, Nat.reduceBEq, Nat.reduceAdd, Nat.reduceEqDiff, reduceIte, Int.reduceToNat, Int.reduceLE, Int.reduceLT, Nat.reduceLeDiff, Nat.reduceMul, Nat.reducePow, Nat.reduceLT, Int.reduceBEq, Int.reduceBNe, Int.reduceAdd, Int.reduceSub, Int.reduceMul, Int.reduceGT, Int.reduceGE, decS, Int.reduceNe, Int.reduceEq, nodeS, mm2, fillOk, fillAV, List.append_nil]
  rw [Int.max_eq_left h1, Int.max_eq_left h3]
def beatF (now b : Int) (n : Node) : Node × Int :=
  if n.up = false then (n, 18)
  else if b < 0 ∨ b < n.beat then (n, 15)
  else if b - n.beat > 1 then (n, 1)
  else ({ n with seen := now, beat := b }, 0)
set_option maxRecDepth 20000 in
set_option maxHeartbeats 8000000 in
theorem beat_ok (tq tn : Bool) (qs : List Queue) (hq : qC qs) (l : List Node) (hl0 : l ≠ []) (hl1 : l.length ≤ 2 ^ 40) (now id b : Int) (i : Nat) (hi : i < l.length) (h : idxI (idP id) l = (i : Int)) (h0 : 0 ≤ l[i].beat) (hb : b < 2 ^ 63) :
    PCall Try.prog 12 [.agg (stC (.sl tq 3 (qs.map QUE)) (.sl tn 8 (l.map NODE)) now), .int .i64 id, .int .i64 b] (.tup [.agg (stC (.sl false 3 (qs.map QUE)) (.sl false 8 ((l.set i (beatF now b l[i]).1).map NODE)) now), .int .i64 (beatF now b l[i]).2]) := by
  unfold PCall
  refine acallR_of isR12 (by simp) ?_
  unfold cc12 stC
  simp -implicitDefEqProofs (maxSteps := 500000) (disch := first | decide | omega) only [↓preS, ↓reduceIte, allS, Nat.reduceBEq, Nat.reduceAdd, Nat.reduceEqDiff, reduceIte, Int.reduceToNat, Int.reduceLE, Int.reduceLT, Nat.reduceLeDiff, Nat.reduceMul, Nat.reducePow, Nat.reduceLT, Int.reduceBEq, Int.reduceBNe, Int.reduceAdd, Int.reduceSub, Int.reduceMul, Int.reduceGT, Int.reduceGE, decS, Int.reduceNe, Int.reduceEq, nodeS]
  refine acK_new (own_cons tn l hl0 hl1 tq qs hq now) rfl rfl ?_
  rintro y G ⟨rfl, rfl⟩
  unfold stC
  simp -implicitDefEqProofs (maxSteps := 500000) (disch := first | decide | omega) only [↓preS, ↓reduceIte, allS, Nat.reduceBEq, Nat.reduceAdd, Nat.reduceEqDiff, reduceIte, Int.reduceToNat, Int.reduceLE, Int.reduceLT, Nat.reduceLeDiff, Nat.reduceMul, Nat.reducePow, Nat.reduceLT, Int.reduceBEq, Int.reduceBNe, Int.reduceAdd, Int.reduceSub, Int.reduceMul, Int.reduceGT, Int.reduceGE, decS, Int.reduceNe, Int.reduceEq, AV.ren, AO.ren, up, AV.renL, nodeS]
  refine acK_of (FCall.of (lent := true) (at_ok true true qs l now id (by omega)) (.cons (bor_st rfl rfl) (.cons (Vw.refl rfl) .nil)) rfl (fun _ => rfl)) ?_
  rw [h]
  have hg : l.getD i default = l[i] := by simp [hi]
  have hset : ∀ x, x = l[i] → l.set i x = l := fun x hx => by subst hx; exact List.set_getElem_self hi
  unfold beatF
  by_cases h1 : l[i].up = false
  · rw [if_pos h1, hset _ rfl]
    simp -implicitDefEqProofs (maxSteps := 500000) (disch := first | decide | omega) only [↓preS, ↓reduceIte, allS, Nat.reduceBEq, Nat.reduceAdd, Nat.reduceEqDiff, reduceIte, Int.reduceToNat, Int.reduceLE, Int.reduceLT, Nat.reduceLeDiff, Nat.reduceMul, Nat.reducePow, Nat.reduceLT, Int.reduceBEq, Int.reduceBNe, Int.reduceAdd, Int.reduceSub, Int.reduceMul, Int.reduceGT, Int.reduceGE, decS, Int.reduceNe, Int.reduceEq, nodeS, hg, h1]
    repeat' first | omega | apply And.intro
  · rw [if_neg h1]
    have h1 : l[i].up = true := by simpa using h1
    by_cases h2 : b < 0 ∨ b < l[i].beat
    · rw [if_pos h2, hset _ rfl]
      rcases Decidable.em (b < 0) with h3 | h3
      · simp -implicitDefEqProofs (maxSteps := 500000) (disch := first | decide | omega) only [↓preS, ↓reduceIte, allS, Nat.reduceBEq, Nat.reduceAdd, Nat.reduceEqDiff, reduceIte, Int.reduceToNat, Int.reduceLE, Int.reduceLT, Nat.reduceLeDiff, Nat.reduceMul, Nat.reducePow, Nat.reduceLT, Int.reduceBEq, Int.reduceBNe, Int.reduceAdd, Int.reduceSub, Int.reduceMul, Int.reduceGT, Int.reduceGE, decS, Int.reduceNe, Int.reduceEq, nodeS, hg, h1]
        repeat' first | omega | apply And.intro
      · have h4 : b < l[i].beat := by omega
        simp -implicitDefEqProofs (maxSteps := 500000) (disch := first | decide | omega) only [↓preS, ↓reduceIte, allS, Nat.reduceBEq, Nat.reduceAdd, Nat.reduceEqDiff, reduceIte, Int.reduceToNat, Int.reduceLE, Int.reduceLT, Nat.reduceLeDiff, Nat.reduceMul, Nat.reducePow, Nat.reduceLT, Int.reduceBEq, Int.reduceBNe, Int.reduceAdd, Int.reduceSub, Int.reduceMul, Int.reduceGT, Int.reduceGE, decS, Int.reduceNe, Int.reduceEq, nodeS, hg, h1]
        repeat' first | omega | apply And.intro
    · rw [if_neg h2]
      by_cases h3 : b - l[i].beat > 1
      · rw [if_pos h3, hset _ rfl]
        simp -implicitDefEqProofs (maxSteps := 500000) (disch := first | decide | omega) only [↓preS, ↓reduceIte, allS, Nat.reduceBEq, Nat.reduceAdd, Nat.reduceEqDiff, reduceIte, Int.reduceToNat, Int.reduceLE, Int.reduceLT, Nat.reduceLeDiff, Nat.reduceMul, Nat.reducePow, Nat.reduceLT, Int.reduceBEq, Int.reduceBNe, Int.reduceAdd, Int.reduceSub, Int.reduceMul, Int.reduceGT, Int.reduceGE, decS, Int.reduceNe, Int.reduceEq, nodeS, hg, h1]
        repeat' first | omega | apply And.intro
      · rw [if_neg h3]
        simp -implicitDefEqProofs (maxSteps := 500000) (disch := first | decide | omega) only [↓preS, ↓reduceIte, allS, Nat.reduceBEq, Nat.reduceAdd, Nat.reduceEqDiff, reduceIte, Int.reduceToNat, Int.reduceLE, Int.reduceLT, Nat.reduceLeDiff, Nat.reduceMul, Nat.reducePow, Nat.reduceLT, Int.reduceBEq, Int.reduceBNe, Int.reduceAdd, Int.reduceSub, Int.reduceMul, Int.reduceGT, Int.reduceGE, decS, Int.reduceNe, Int.reduceEq, nodeS, hg, h1]
        repeat' first | omega | (rw [List.length_set]; omega) | apply And.intro
        all_goals simp [List.length_set, List.take_of_length_le, List.getElem?_set_self hi, h1]
        rfl
theorem beat_no (tq tn : Bool) (qs : List Queue) (hq : qC qs) (l : List Node) (hl0 : l ≠ []) (hl1 : l.length ≤ 2 ^ 40) (now id b : Int) (h : idxI (idP id) l = -1) :
    PCall Try.prog 12 [.agg (stC (.sl tq 3 (qs.map QUE)) (.sl tn 8 (l.map NODE)) now), .int .i64 id, .int .i64 b] (.tup [.agg (stC (.sl false 3 (qs.map QUE)) (.sl false 8 (l.map NODE)) now), .int .i64 2]) := by
  unfold PCall
  refine acallR_of isR12 (by simp) ?_
  unfold cc12 stC
  simp -implicitDefEqProofs (maxSteps := 500000) (disch := first | decide | omega) only [↓preS, ↓reduceIte, allS, Nat.reduceBEq, Nat.reduceAdd, Nat.reduceEqDiff, reduceIte, Int.reduceToNat, Int.reduceLE, Int.reduceLT, Nat.reduceLeDiff, Nat.reduceMul, Nat.reducePow, Nat.reduceLT, Int.reduceBEq, Int.reduceBNe, Int.reduceAdd, Int.reduceSub, Int.reduceMul, Int.reduceGT, Int.reduceGE, decS, Int.reduceNe, Int.reduceEq, nodeS]
  refine acK_new (own_cons tn l hl0 hl1 tq qs hq now) rfl rfl ?_
  rintro y G ⟨rfl, rfl⟩
  unfold stC
  simp -implicitDefEqProofs (maxSteps := 500000) (disch := first | decide | omega) only [↓preS, ↓reduceIte, allS, Nat.reduceBEq, Nat.reduceAdd, Nat.reduceEqDiff, reduceIte, Int.reduceToNat, Int.reduceLE, Int.reduceLT, Nat.reduceLeDiff, Nat.reduceMul, Nat.reducePow, Nat.reduceLT, Int.reduceBEq, Int.reduceBNe, Int.reduceAdd, Int.reduceSub, Int.reduceMul, Int.reduceGT, Int.reduceGE, decS, Int.reduceNe, Int.reduceEq, AV.ren, AO.ren, up, AV.renL, nodeS]
  refine acK_of (FCall.of (lent := true) (at_ok true true qs l now id (by omega)) (.cons (bor_st rfl rfl) (.cons (Vw.refl rfl) .nil)) rfl (fun _ => rfl)) ?_
  rw [h]
  simp -implicitDefEqProofs (maxSteps := 500000) (disch := first | decide | omega) only [↓preS, ↓reduceIte, allS, Nat.reduceBEq, Nat.reduceAdd, Nat.reduceEqDiff, reduceIte, Int.reduceToNat, Int.reduceLE, Int.reduceLT, Nat.reduceLeDiff, Nat.reduceMul, Nat.reducePow, Nat.reduceLT, Int.reduceBEq, Int.reduceBNe, Int.reduceAdd, Int.reduceSub, Int.reduceMul, Int.reduceGT, Int.reduceGE, decS, Int.reduceNe, Int.reduceEq, nodeS]
end Go.Proofs.Ytlgdinihbomlpaa
