/- What functions of the program compute. No condition. -/
import Derived.Test.YtlgdinihbomlpaaN4
set_option linter.unusedSimpArgs false
set_option linter.unusedVariables false
namespace Go.Proofs.Ytlgdinihbomlpaa
open Go Go.Ab

theorem insK_at {p : Int} {m : List Node} {i : Nat} (hi : i ≤ m.length) (hn : ∀ j, (h : j < i) → (h2 : j < m.length) → m[j].id < p) (hor : i = m.length ∨ ∃ h : i < m.length, ¬ m[i].id < p) : insK p m = i := by
  unfold insK
  rcases hor with rfl | ⟨h, hp⟩
  · apply List.findIdx_eq_length.2
    intro x hx
    obtain ⟨j, hj, rfl⟩ := List.getElem_of_mem hx
    simp [hn j hj hj]
  · rw [List.findIdx_eq h]
    exact ⟨by simp [hp], fun j hj => by simp [hn j hj (by omega)]⟩
set_option maxRecDepth 20000 in
set_option maxHeartbeats 8000000 in
theorem reg_ok (tq tn : Bool) (qs : List Queue) (hq : qC qs) (l : List Node) (hl0 : l ≠ []) (hl1 : l.length ≤ 2 ^ 40) (now : Int) (n : Node) (hn : OkN n) : PCall Try.prog 10 [.agg (stC (.sl tq 3 (qs.map QUE)) (.sl tn 8 (l.map NODE)) now), NODE n] (.tup [.agg (stC (.sl false 3 (qs.map QUE)) (.sl false 8 ((regF now n l).1.map NODE)) now), .int .i64 (regF now n l).2]) := by
  unfold PCall
  refine acallR_of isR10 (by simp) ?_
  unfold cc10 stC
  simp -implicitDefEqProofs (maxSteps := 500000) (disch := first | decide | omega) only [↓preS, ↓reduceIte, allS, Nat.reduceBEq, Nat.reduceAdd, Nat.reduceEqDiff, reduceIte, Int.reduceToNat, Int.reduceLE, Int.reduceLT, Nat.reduceLeDiff, Nat.reduceMul, Nat.reducePow, Nat.reduceLT, Int.reduceBEq, Int.reduceBNe, Int.reduceAdd, Int.reduceSub, Int.reduceMul, Int.reduceGT, Int.reduceGE, decS, Int.reduceNe, Int.reduceEq, nodeS]
  refine acK_new (own_cons tn l hl0 hl1 tq qs hq now) rfl rfl ?_
  rintro y G ⟨rfl, rfl⟩
  unfold stC
  simp -implicitDefEqProofs (maxSteps := 500000) (disch := first | decide | omega) only [↓preS, ↓reduceIte, allS, Nat.reduceBEq, Nat.reduceAdd, Nat.reduceEqDiff, reduceIte, Int.reduceToNat, Int.reduceLE, Int.reduceLT, Nat.reduceLeDiff, Nat.reduceMul, Nat.reducePow, Nat.reduceLT, Int.reduceBEq, Int.reduceBNe, Int.reduceAdd, Int.reduceSub, Int.reduceMul, Int.reduceGT, Int.reduceGE, decS, Int.reduceNe, Int.reduceEq, AV.ren, AO.ren, up, AV.renL, nodeS]
  refine acK_of (FCall.of (lent := true) (at_ok true true qs l now n.id (by omega)) (.cons (bor_st rfl rfl) (.cons (Vw.refl rfl) .nil)) rfl (fun _ => rfl)) ?_
  obtain ⟨i0, i9, l0, r0, r9, m0, m9, c0, c9⟩ := hn
  simp -implicitDefEqProofs (maxSteps := 500000) (disch := first | decide | omega) only [↓preS, ↓reduceIte, allS, Nat.reduceBEq, Nat.reduceAdd, Nat.reduceEqDiff, reduceIte, Int.reduceToNat, Int.reduceLE, Int.reduceLT, Nat.reduceLeDiff, Nat.reduceMul, Nat.reducePow, Nat.reduceLT, Int.reduceBEq, Int.reduceBNe, Int.reduceAdd, Int.reduceSub, Int.reduceMul, Int.reduceGT, Int.reduceGE, decS, Int.reduceNe, Int.reduceEq, nodeS]
  refine acK_of (FCall.of (lent := false) (in_t n.id 999 ⟨i0, i9⟩) (.refl rfl) rfl (by simp)) ?_
  simp -implicitDefEqProofs (maxSteps := 500000) (disch := first | decide | omega) only [↓preS, ↓reduceIte, allS, Nat.reduceBEq, Nat.reduceAdd, Nat.reduceEqDiff, reduceIte, Int.reduceToNat, Int.reduceLE, Int.reduceLT, Nat.reduceLeDiff, Nat.reduceMul, Nat.reducePow, Nat.reduceLT, Int.reduceBEq, Int.reduceBNe, Int.reduceAdd, Int.reduceSub, Int.reduceMul, Int.reduceGT, Int.reduceGE, decS, Int.reduceNe, Int.reduceEq, nodeS]
  refine acK_of (FCall.of (lent := false) (in_t n.label _ (by simp [l0])) (.refl rfl) rfl (by simp)) ?_
  simp -implicitDefEqProofs (maxSteps := 500000) (disch := first | decide | omega) only [↓preS, ↓reduceIte, allS, Nat.reduceBEq, Nat.reduceAdd, Nat.reduceEqDiff, reduceIte, Int.reduceToNat, Int.reduceLE, Int.reduceLT, Nat.reduceLeDiff, Nat.reduceMul, Nat.reducePow, Nat.reduceLT, Int.reduceBEq, Int.reduceBNe, Int.reduceAdd, Int.reduceSub, Int.reduceMul, Int.reduceGT, Int.reduceGE, decS, Int.reduceNe, Int.reduceEq, nodeS]
  refine acK_of (FCall.of (lent := false) (in_t n.rack _ ⟨r0, r9⟩) (.refl rfl) rfl (by simp)) ?_
  simp -implicitDefEqProofs (maxSteps := 500000) (disch := first | decide | omega) only [↓preS, ↓reduceIte, allS, Nat.reduceBEq, Nat.reduceAdd, Nat.reduceEqDiff, reduceIte, Int.reduceToNat, Int.reduceLE, Int.reduceLT, Nat.reduceLeDiff, Nat.reduceMul, Nat.reducePow, Nat.reduceLT, Int.reduceBEq, Int.reduceBNe, Int.reduceAdd, Int.reduceSub, Int.reduceMul, Int.reduceGT, Int.reduceGE, decS, Int.reduceNe, Int.reduceEq, nodeS]
  refine acK_of (FCall.of (lent := false) (in_t n.mem _ ⟨m0, m9⟩) (.refl rfl) rfl (by simp)) ?_
  simp -implicitDefEqProofs (maxSteps := 500000) (disch := first | decide | omega) only [↓preS, ↓reduceIte, allS, Nat.reduceBEq, Nat.reduceAdd, Nat.reduceEqDiff, reduceIte, Int.reduceToNat, Int.reduceLE, Int.reduceLT, Nat.reduceLeDiff, Nat.reduceMul, Nat.reducePow, Nat.reduceLT, Int.reduceBEq, Int.reduceBNe, Int.reduceAdd, Int.reduceSub, Int.reduceMul, Int.reduceGT, Int.reduceGE, decS, Int.reduceNe, Int.reduceEq, nodeS]
  refine acK_of (FCall.of (lent := false) (in_t n.cores _ ⟨c0, c9⟩) (.refl rfl) rfl (by simp)) ?_
  unfold regF
  simp only
  rcases idx_cases (idP n.id) l with ⟨h1, h2⟩ | ⟨i, hi, h1, h2, h3⟩
  · rw [h1]
    simp only [show ¬ (0 : Int) ≤ -1 by omega, show (-1 : Int) < 0 by omega, false_and, true_and, if_false]
    by_cases h12 : 12 ≤ l.length
    · rw [if_pos h12]
      simp -implicitDefEqProofs (maxSteps := 500000) (disch := first | decide | omega) only [↓preS, ↓reduceIte, allS, Nat.reduceBEq, Nat.reduceAdd, Nat.reduceEqDiff, reduceIte, Int.reduceToNat, Int.reduceLE, Int.reduceLT, Nat.reduceLeDiff, Nat.reduceMul, Nat.reducePow, Nat.reduceLT, Int.reduceBEq, Int.reduceBNe, Int.reduceAdd, Int.reduceSub, Int.reduceMul, Int.reduceGT, Int.reduceGE, decS, Int.reduceNe, Int.reduceEq, nodeS, fillOk, fillAV, List.append_nil]
    · rw [if_neg h12]
      simp -implicitDefEqProofs (maxSteps := 500000) (disch := first | decide | omega) only [↓preS, ↓reduceIte, allS, Nat.reduceBEq, Nat.reduceAdd, Nat.reduceEqDiff, reduceIte, Int.reduceToNat, Int.reduceLE, Int.reduceLT, Nat.reduceLeDiff, Nat.reduceMul, Nat.reducePow, Nat.reduceLT, Int.reduceBEq, Int.reduceBNe, Int.reduceAdd, Int.reduceSub, Int.reduceMul, Int.reduceGT, Int.reduceGE, decS, Int.reduceNe, Int.reduceEq, nodeS, fillOk, fillAV, List.append_nil]
      unfold cc10L0
      simp -implicitDefEqProofs (maxSteps := 500000) (disch := first | decide | omega) only [↓preS, ↓reduceIte, allS, Nat.reduceBEq, Nat.reduceAdd, Nat.reduceEqDiff, reduceIte, Int.reduceToNat, Int.reduceLE, Int.reduceLT, Nat.reduceLeDiff, Nat.reduceMul, Nat.reducePow, Nat.reduceLT, Int.reduceBEq, Int.reduceBNe, Int.reduceAdd, Int.reduceSub, Int.reduceMul, Int.reduceGT, Int.reduceGE, decS, Int.reduceNe, Int.reduceEq, nodeS]
      have e : [AV.int .i64 n.id, AV.int .i64 n.label, AV.int .i64 n.rack, AV.int .i64 n.mem, AV.int .i64 n.cores, AV.int .i64 now, AV.int .i64 0, AV.bool true] = nodeC (newN now n) := rfl
      rw [e]
      have ei : n.id = (newN now n).id := rfl
      rw [ei]
      generalize newN now n = x
      refine aw_loopS (σ := Nat) (fun i => ⟨[(2, .ref 0 0 0), (3, .ref 1 0 0), (4, .ref 2 0 0), (7, .int .i64 (i : Int))], [.box [.sl false 1 [.str []], .own 3 3 0 qs.length, .own 4 8 0 l.length, .nils, .nils, .nils, .nils, .int .i64 now, .int .i64 0, .int .i64 0], .box (nodeC x), .box [.nils, .nils, .nils, .nils, .nils, .nils, .nils, .int .i64 0, .int .i64 0, .int .i64 0], .arr 3 (qs.map QUE), .arr 8 (l.map NODE)]⟩)
        (fun i => i ≤ l.length ∧ ∀ j, (h : j < i) → (h2 : j < l.length) → l[j].id < x.id) (fun i => l.length - i) 0 (.inl rfl) ⟨by omega, fun j h => by omega⟩ ?_
      rintro i ⟨hii, hn⟩
      unfold cc10l0
      have fin : ∀ K Kp, insK x.id l = i → (∀ o1 o2 G, K (.sl false 8 ((insL (insK x.id l) x l).map NODE)) ([.box [.sl false 1 [.str []], .own 3 3 0 qs.length, .own 4 8 0 l.length, .nils, .nils, .nils, .nils, .int .i64 now, .int .i64 0, .int .i64 0], .box (nodeC x), .box [.nils, .nils, .nils, .nils, .nils, .nils, .nils, .int .i64 0, .int .i64 0, .int .i64 0], .arr 3 (qs.map QUE), o1, o2] ++ G)) → acK Try.prog 18 [.own 4 8 0 l.length, .int .i64 (i : Int), .own 5 8 0 1] [.box [.sl false 1 [.str []], .own 3 3 0 qs.length, .own 4 8 0 l.length, .nils, .nils, .nils, .nils, .int .i64 now, .int .i64 0, .int .i64 0], .box (nodeC x), .box [.nils, .nils, .nils, .nils, .nils, .nils, .nils, .int .i64 0, .int .i64 0, .int .i64 0], .arr 3 (qs.map QUE), .arr 8 (l.map NODE), .arr 8 [NODE x]] K Kp := by
        intro K Kp hi hk
        have hc := ins_ok l [] x i (by omega) (by simp; omega)
        rw [List.append_nil] at hc
        refine (hc.len.frame [4, 5] rfl (by simp) (by simp) ?_ rfl).to ?_
        · intro k o hk
          match k, hk with
          | 0, hk => simp only [List.getElem?_cons_zero, Option.some.injEq] at hk; subst hk; exact ⟨rfl, rfl⟩
          | 1, hk => simp only [List.getElem?_cons_succ, List.getElem?_cons_zero, Option.some.injEq] at hk; subst hk; exact ⟨rfl, rfl⟩
          | k + 2, hk => simp at hk
        rintro y G ⟨y0, Hr, ⟨rfl, hHr⟩, rfl, rfl⟩
        match Hr, hHr with
        | o1 :: o2 :: G, _ =>
        have := hk (o1.ren (ext [4, 5] 6)) (o2.ren (ext [4, 5] 6)) (G.map (AO.ren (ext [4, 5] 6)))
        rw [hi] at this
        exact this
      by_cases hil : i < l.length
      · have hg : l.getD i default = l[i] := by simp [hil]
        by_cases hb : l[i].id < x.id
        · simp -implicitDefEqProofs (maxSteps := 500000) (disch := first | decide | omega) only [↓preS, ↓reduceIte, allS, Nat.reduceBEq, Nat.reduceAdd, Nat.reduceEqDiff, reduceIte, Int.reduceToNat, Int.reduceLE, Int.reduceLT, Nat.reduceLeDiff, Nat.reduceMul, Nat.reducePow, Nat.reduceLT, Int.reduceBEq, Int.reduceBNe, Int.reduceAdd, Int.reduceSub, Int.reduceMul, Int.reduceGT, Int.reduceGE, decS, Int.reduceNe, Int.reduceEq, nodeS, nodeD, hg]
          refine ⟨by omega, by omega, by omega, i + 1, .inl rfl, ⟨by omega, fun j h h2 => ?_⟩, by omega⟩
          by_cases hj : j = i
          · subst hj; exact hb
          · exact hn j (by omega) h2
        · have hi := insK_at (i := i) (by omega) hn (.inr ⟨hil, hb⟩)
          simp -implicitDefEqProofs (maxSteps := 500000) (disch := first | decide | omega) only [↓preS, ↓reduceIte, allS, Nat.reduceBEq, Nat.reduceAdd, Nat.reduceEqDiff, reduceIte, Int.reduceToNat, Int.reduceLE, Int.reduceLT, Nat.reduceLeDiff, Nat.reduceMul, Nat.reducePow, Nat.reduceLT, Int.reduceBEq, Int.reduceBNe, Int.reduceAdd, Int.reduceSub, Int.reduceMul, Int.reduceGT, Int.reduceGE, decS, Int.reduceNe, Int.reduceEq, nodeS, nodeD, hg]
          refine ⟨by omega, by omega, by omega, ?_⟩
          refine fin _ _ hi fun o1 o2 G => ?_
          simp -implicitDefEqProofs (maxSteps := 500000) (disch := first | decide | omega) only [↓preS, ↓reduceIte, allS, Nat.reduceBEq, Nat.reduceAdd, Nat.reduceEqDiff, reduceIte, Int.reduceToNat, Int.reduceLE, Int.reduceLT, Nat.reduceLeDiff, Nat.reduceMul, Nat.reducePow, Nat.reduceLT, Int.reduceBEq, Int.reduceBNe, Int.reduceAdd, Int.reduceSub, Int.reduceMul, Int.reduceGT, Int.reduceGE, decS, Int.reduceNe, Int.reduceEq, List.cons_append, List.nil_append]
      · have : i = l.length := by omega
        subst this
        have hi := insK_at (i := l.length) (by omega) hn (.inl rfl)
        simp -implicitDefEqProofs (maxSteps := 500000) (disch := first | decide | omega) only [↓preS, ↓reduceIte, allS, Nat.reduceBEq, Nat.reduceAdd, Nat.reduceEqDiff, reduceIte, Int.reduceToNat, Int.reduceLE, Int.reduceLT, Nat.reduceLeDiff, Nat.reduceMul, Nat.reducePow, Nat.reduceLT, Int.reduceBEq, Int.reduceBNe, Int.reduceAdd, Int.reduceSub, Int.reduceMul, Int.reduceGT, Int.reduceGE, decS, Int.reduceNe, Int.reduceEq, nodeS, nodeD]
        refine fin _ _ hi fun o1 o2 G => ?_
        simp -implicitDefEqProofs (maxSteps := 500000) (disch := first | decide | omega) only [↓preS, ↓reduceIte, allS, Nat.reduceBEq, Nat.reduceAdd, Nat.reduceEqDiff, reduceIte, Int.reduceToNat, Int.reduceLE, Int.reduceLT, Nat.reduceLeDiff, Nat.reduceMul, Nat.reducePow, Nat.reduceLT, Int.reduceBEq, Int.reduceBNe, Int.reduceAdd, Int.reduceSub, Int.reduceMul, Int.reduceGT, Int.reduceGE, decS, Int.reduceNe, Int.reduceEq, List.cons_append, List.nil_append]
  · rw [h1]
    have hg : l.getD i default = l[i] := by simp [hi]
    by_cases hup : l[i].up = true
    · rw [if_pos (by simp [hi, hup])]
      simp -implicitDefEqProofs (maxSteps := 500000) (disch := first | decide | omega) only [↓preS, ↓reduceIte, allS, Nat.reduceBEq, Nat.reduceAdd, Nat.reduceEqDiff, reduceIte, Int.reduceToNat, Int.reduceLE, Int.reduceLT, Nat.reduceLeDiff, Nat.reduceMul, Nat.reducePow, Nat.reduceLT, Int.reduceBEq, Int.reduceBNe, Int.reduceAdd, Int.reduceSub, Int.reduceMul, Int.reduceGT, Int.reduceGE, decS, Int.reduceNe, Int.reduceEq, nodeS, hg, hup, fillOk, fillAV, List.append_nil]
      omega
    · rw [if_neg (by simp [hi, hup]), if_neg (by omega), if_pos (by omega)]
      have hup : l[i].up = false := by simpa using hup
      simp -implicitDefEqProofs (maxSteps := 500000) (disch := first | decide | omega) only [↓preS, ↓reduceIte, allS, Nat.reduceBEq, Nat.reduceAdd, Nat.reduceEqDiff, reduceIte, Int.reduceToNat, Int.reduceLE, Int.reduceLT, Nat.reduceLeDiff, Nat.reduceMul, Nat.reducePow, Nat.reduceLT, Int.reduceBEq, Int.reduceBNe, Int.reduceAdd, Int.reduceSub, Int.reduceMul, Int.reduceGT, Int.reduceGE, decS, Int.reduceNe, Int.reduceEq, nodeS, hg, hup, fillOk, fillAV, List.append_nil]
      rw [show [AV.int .i64 n.id, AV.int .i64 n.label, AV.int .i64 n.rack, AV.int .i64 n.mem, AV.int .i64 n.cores, AV.int .i64 now, AV.int .i64 0, AV.bool true] = nodeC (newN now n) from rfl, node_upd]
      have el : ((l.set i (newN now n)).map NODE).length = l.length := by simp
      rw [el, if_pos (Nat.le_refl _), List.take_of_length_le (by simp)]
      exact ⟨by omega, by omega, by omega, by omega, by omega, by omega, rfl, rfl⟩
end Go.Proofs.Ytlgdinihbomlpaa
