/- What functions of the program compute. No condition. -/
import Derived.Test.YtgpipheibnlkhaaWH2
import Derived.Test.YtgpipheibnlkhaaWG
set_option linter.unusedSimpArgs false
set_option linter.unusedVariables false
namespace Go.Proofs.Ytgpipheibnlkhaa
open Go Go.Ab

theorem sim_end {a b : Inp × RS} (h : Sim a b) : endE a.2 = endE b.2 := by
  obtain ⟨h1, h2⟩ := h
  unfold endE
  by_cases he : b.2.e = 0
  · rw [h1, (h2 he).2]
  · rw [h1, if_neg (fun h => he h.1), if_neg (fun h => he h.1)]
theorem sim_done {a b : Inp × RS} (h : Sim a b) : done a = done b := by
  have he := sim_end h
  unfold done
  rw [he]
  by_cases h0 : endE b.2 ≠ 0
  · rw [if_pos h0, if_pos h0]
  · rw [if_neg h0, if_neg h0]
    have hb : b.2.e = 0 := by
      simp only [ne_eq, Decidable.not_not] at h0
      unfold endE at h0
      split at h0
      · cases h0
      · exact h0
    rw [(h.2 hb).1]

set_option maxRecDepth 20000 in
set_option maxHeartbeats 8000000 in
theorem tail22 (B : List UInt8) (hB : B.length < 2 ^ 62) (k : Int) (s : RS) (hs : Suf B s) :
    aw Try.prog cc22T28 (retR [.ce 2 33 35 true, .tm 3] fun y _ => Wk3 y (parR (done (parsB k s)))) ⟨[(2, .ref 0 0 0), (4, .ref 1 0 0), (5, .ref 2 0 0)], [.box (inpZ 0), XS B s, .box (inpZ k)]⟩ := by
  unfold cc22T28
  have i0 : partOf (inpZ k) 0 35 true = .agg (inpZ k) := rfl
  have i1 : (inpZ k).length = 35 := rfl
  have i2 : (inpZ k).drop 35 = [] := rfl
  have j1 : (inpZ 0).length = 35 := rfl
  have j2 : (inpZ 0).drop 35 = [] := rfl
  have j3 : partOf (inpZ 0) 0 35 true = .agg (inpZ 0) := rfl
  have jn : ∀ {P : Program} {d : Bool} {t : Nat} {l : List COper} {r : Regs} {L : St → Prop} {Lp : AV → St → Prop} {H : List AO}, nxt P d t l r L Lp (.agg (inpZ k)) H = opsK P d l ⟨(t, .agg (inpZ k)) :: r, H⟩ L Lp := rfl
  simp -implicitDefEqProofs (maxSteps := 500000) (disch := first | decide | omega) only [↓preS, ↓reduceIte, allS, Nat.reduceBEq, Nat.reduceAdd, Nat.reduceEqDiff, reduceIte, Int.reduceToNat, Int.reduceLE, Int.reduceLT, Nat.reduceLeDiff, Nat.reduceMul, Nat.reducePow, Nat.reduceLT, Int.reduceBEq, Int.reduceBNe, Int.reduceAdd, Int.reduceSub, Int.reduceMul, Int.reduceGT, Int.reduceGE, decS, Int.reduceNe, Int.reduceEq, i0, i1]
  refine acK_obj ((rest_x B hB k s hs).to (PP := fun _ _ => False) fun _ _ h => h) rfl rfl rfl rfl rfl ?_ fun _ _ h => h.elim
  rintro y G ⟨q, rfl, rfl, g1, g2⟩
  rw [← sim_done g2]
  have ee : endE q.2 = if q.2.e = 0 ∧ 0 < q.2.b.length then 9 else q.2.e := rfl
  have e1 : ∀ ρ, (INP q.1).ren ρ = INP q.1 := fun _ => rfl
  have e2 : ∀ ρ, (XS B q.2).ren ρ = XS B q.2 := fun _ => rfl
  have z0 : Wk3 (.tup [.agg (inpZ 0), .int .i64 (endE q.2)]) (.tup [INP (zInp 0), .int .i64 (endE q.2)]) := .inr ⟨_, _, rfl, rfl, wk2_of (inpZ_wk 0) rfl rfl, .inl (.inl rfl), trivial⟩
  have z1 : Wk3 (.tup [.agg (inpZ 0), .int .i64 (wrongI q.1)]) (.tup [INP (zInp 0), .int .i64 (wrongI q.1)]) := .inr ⟨_, _, rfl, rfl, wk2_of (inpZ_wk 0) rfl rfl, .inl (.inl rfl), trivial⟩
  have c := end_x B hB q.2 g1
  rw [← ee] at c
  simp -implicitDefEqProofs (maxSteps := 500000) (disch := first | decide | omega) only [↓preS, ↓reduceIte, allS, Nat.reduceBEq, Nat.reduceAdd, Nat.reduceEqDiff, reduceIte, Int.reduceToNat, Int.reduceLE, Int.reduceLT, Nat.reduceLeDiff, Nat.reduceMul, Nat.reducePow, Nat.reduceLT, Int.reduceBEq, Int.reduceBNe, Int.reduceAdd, Int.reduceSub, Int.reduceMul, Int.reduceGT, Int.reduceGE, decS, Int.reduceNe, Int.reduceEq, e1, e2, spl_one, inpS, List.append_nil, i1, i2]
  refine acK_rd (c) rfl (fun _ => rfl) (fun _ => rfl) rfl (fun _ => rfl) (fun _ => rfl) rfl ?_
  by_cases he : endE q.2 = 0
  · have e1 : done q = if wrongI q.1 ≠ 0 then (zInp 0, wrongI q.1) else (q.1, 0) := by unfold done; rw [if_neg (by simpa using he)]
    rw [e1, he]
    simp -implicitDefEqProofs (maxSteps := 500000) (disch := first | decide | omega) only [↓preS, ↓reduceIte, allS, Nat.reduceBEq, Nat.reduceAdd, Nat.reduceEqDiff, reduceIte, Int.reduceToNat, Int.reduceLE, Int.reduceLT, Nat.reduceLeDiff, Nat.reduceMul, Nat.reducePow, Nat.reduceLT, Int.reduceBEq, Int.reduceBNe, Int.reduceAdd, Int.reduceSub, Int.reduceMul, Int.reduceGT, Int.reduceGE, decS, Int.reduceNe, Int.reduceEq, inpS]
    refine acK_of (FCall.of (lent := false) (xwrong_ok q.1) (.refl rfl) rfl (by simp)) ?_
    by_cases hr : wrongI q.1 = 0
    · rw [if_neg (by simpa using hr), hr]
      simp -implicitDefEqProofs (maxSteps := 500000) (disch := first | decide | omega) only [↓preS, ↓reduceIte, allS, Nat.reduceBEq, Nat.reduceAdd, Nat.reduceEqDiff, reduceIte, Int.reduceToNat, Int.reduceLE, Int.reduceLT, Nat.reduceLeDiff, Nat.reduceMul, Nat.reducePow, Nat.reduceLT, Int.reduceBEq, Int.reduceBNe, Int.reduceAdd, Int.reduceSub, Int.reduceMul, Int.reduceGT, Int.reduceGE, decS, Int.reduceNe, Int.reduceEq, inpS, List.append_nil, j1, j2]
      exact .inl (.inl (.inl rfl))
    · rw [if_pos hr]
      simp -implicitDefEqProofs (maxSteps := 500000) (disch := first | decide | omega) only [↓preS, ↓reduceIte, allS, Nat.reduceBEq, Nat.reduceAdd, Nat.reduceEqDiff, reduceIte, Int.reduceToNat, Int.reduceLE, Int.reduceLT, Nat.reduceLeDiff, Nat.reduceMul, Nat.reducePow, Nat.reduceLT, Int.reduceBEq, Int.reduceBNe, Int.reduceAdd, Int.reduceSub, Int.reduceMul, Int.reduceGT, Int.reduceGE, decS, Int.reduceNe, Int.reduceEq, inpS, fillOk, fillAV]
      refine acK_of (FCall.of (lent := false) (xwrong_ok q.1) (.refl rfl) rfl (by simp)) ?_
      simp -implicitDefEqProofs (maxSteps := 500000) (disch := first | decide | omega) only [↓preS, ↓reduceIte, allS, Nat.reduceBEq, Nat.reduceAdd, Nat.reduceEqDiff, reduceIte, Int.reduceToNat, Int.reduceLE, Int.reduceLT, Nat.reduceLeDiff, Nat.reduceMul, Nat.reducePow, Nat.reduceLT, Int.reduceBEq, Int.reduceBNe, Int.reduceAdd, Int.reduceSub, Int.reduceMul, Int.reduceGT, Int.reduceGE, decS, Int.reduceNe, Int.reduceEq, fillOk, fillAV, j1, j2, List.append_nil]
      exact z1
  · have e1 : done q = (zInp 0, endE q.2) := by unfold done; rw [if_pos he]
    rw [e1]
    simp -implicitDefEqProofs (maxSteps := 500000) (disch := first | decide | omega) only [↓preS, ↓reduceIte, allS, Nat.reduceBEq, Nat.reduceAdd, Nat.reduceEqDiff, reduceIte, Int.reduceToNat, Int.reduceLE, Int.reduceLT, Nat.reduceLeDiff, Nat.reduceMul, Nat.reducePow, Nat.reduceLT, Int.reduceBEq, Int.reduceBNe, Int.reduceAdd, Int.reduceSub, Int.reduceMul, Int.reduceGT, Int.reduceGE, decS, Int.reduceNe, Int.reduceEq, fillOk, fillAV]
    refine acK_rd (c) rfl (fun _ => rfl) (fun _ => rfl) rfl (fun _ => rfl) (fun _ => rfl) rfl ?_
    simp -implicitDefEqProofs (maxSteps := 500000) (disch := first | decide | omega) only [↓preS, ↓reduceIte, allS, Nat.reduceBEq, Nat.reduceAdd, Nat.reduceEqDiff, reduceIte, Int.reduceToNat, Int.reduceLE, Int.reduceLT, Nat.reduceLeDiff, Nat.reduceMul, Nat.reducePow, Nat.reduceLT, Int.reduceBEq, Int.reduceBNe, Int.reduceAdd, Int.reduceSub, Int.reduceMul, Int.reduceGT, Int.reduceGE, decS, Int.reduceNe, Int.reduceEq, fillOk, fillAV, j1, j2, List.append_nil]
    exact z0

set_option maxRecDepth 20000 in
set_option maxHeartbeats 8000000 in
theorem xparse_ok (B : List UInt8) (hB : B.length ≤ 2 ^ 40) : PCall Try.prog 22 [SB B] (parR (parse B)) := by
  refine PCall.wk3 (acallR_of isR22 (by simp) ?_)
  unfold cc22
  have hB2 : B.length < 2 ^ 62 := by omega
  have h0 : Suf B ⟨B, 0⟩ := ⟨0, by omega, rfl⟩
  simp -implicitDefEqProofs (maxSteps := 500000) (disch := first | decide | omega) only [↓preS, ↓reduceIte, allS, Nat.reduceBEq, Nat.reduceAdd, Nat.reduceEqDiff, reduceIte, Int.reduceToNat, Int.reduceLE, Int.reduceLT, Nat.reduceLeDiff, Nat.reduceMul, Nat.reducePow, Nat.reduceLT, Int.reduceBEq, Int.reduceBNe, Int.reduceAdd, Int.reduceSub, Int.reduceMul, Int.reduceGT, Int.reduceGE, decS, Int.reduceNe, Int.reduceEq, SB]
  refine acK_new (newx_ok B) rfl rfl ?_
  rintro y G ⟨rfl, rfl⟩
  have e1 : (XS B ⟨B, 0⟩).ren (up 1) = XS B ⟨B, 0⟩ := rfl
  simp -implicitDefEqProofs (maxSteps := 500000) (disch := first | decide | omega) only [↓preS, ↓reduceIte, allS, Nat.reduceBEq, Nat.reduceAdd, Nat.reduceEqDiff, reduceIte, Int.reduceToNat, Int.reduceLE, Int.reduceLT, Nat.reduceLeDiff, Nat.reduceMul, Nat.reducePow, Nat.reduceLT, Int.reduceBEq, Int.reduceBNe, Int.reduceAdd, Int.reduceSub, Int.reduceMul, Int.reduceGT, Int.reduceGE, decS, Int.reduceNe, Int.reduceEq, AV.ren, e1, up]
  refine acK_rd (int_x B hB2 ⟨B, 0⟩ h0) rfl (fun _ => rfl) (fun _ => rfl) rfl (fun _ => rfl) (fun _ => rfl) rfl ?_
  have h1 := suf_int h0
  have hp : parse B = done (parsB (intR ⟨B, 0⟩).1 (if (intR ⟨B, 0⟩).1 < 1 ∨ 11 < (intR ⟨B, 0⟩).1 then failR (intR ⟨B, 0⟩).2 3 else (intR ⟨B, 0⟩).2)) := rfl
  rw [hp]
  generalize intR ⟨B, 0⟩ = p at h1 ⊢
  obtain ⟨k, u, e⟩ := p
  simp only at h1 ⊢
  by_cases he : e = 0
  · subst he
    by_cases k1 : k < 1
    · rw [if_pos (.inl k1)]
      simp -implicitDefEqProofs (maxSteps := 500000) (disch := first | decide | omega) only [↓preS, ↓reduceIte, allS, Nat.reduceBEq, Nat.reduceAdd, Nat.reduceEqDiff, reduceIte, Int.reduceToNat, Int.reduceLE, Int.reduceLT, Nat.reduceLeDiff, Nat.reduceMul, Nat.reducePow, Nat.reduceLT, Int.reduceBEq, Int.reduceBNe, Int.reduceAdd, Int.reduceSub, Int.reduceMul, Int.reduceGT, Int.reduceGE, decS, Int.reduceNe, Int.reduceEq, fillOk, fillAV, XS, XO]
      refine acK_rd (fail_x B ⟨u, 0⟩ 3) rfl (fun _ => rfl) (fun _ => rfl) rfl (fun _ => rfl) (fun _ => rfl) rfl ?_
      simp -implicitDefEqProofs (maxSteps := 500000) (disch := first | decide | omega) only [↓preS, ↓reduceIte, allS, Nat.reduceBEq, Nat.reduceAdd, Nat.reduceEqDiff, reduceIte, Int.reduceToNat, Int.reduceLE, Int.reduceLT, Nat.reduceLeDiff, Nat.reduceMul, Nat.reducePow, Nat.reduceLT, Int.reduceBEq, Int.reduceBNe, Int.reduceAdd, Int.reduceSub, Int.reduceMul, Int.reduceGT, Int.reduceGE, decS, Int.reduceNe, Int.reduceEq]
      exact tail22 B hB2 k (failR ⟨u, 0⟩ 3) h1
    by_cases k2 : 11 < k
    · rw [if_pos (.inr k2)]
      simp -implicitDefEqProofs (maxSteps := 500000) (disch := first | decide | omega) only [↓preS, ↓reduceIte, allS, Nat.reduceBEq, Nat.reduceAdd, Nat.reduceEqDiff, reduceIte, Int.reduceToNat, Int.reduceLE, Int.reduceLT, Nat.reduceLeDiff, Nat.reduceMul, Nat.reducePow, Nat.reduceLT, Int.reduceBEq, Int.reduceBNe, Int.reduceAdd, Int.reduceSub, Int.reduceMul, Int.reduceGT, Int.reduceGE, decS, Int.reduceNe, Int.reduceEq, fillOk, fillAV, XS, XO]
      refine acK_rd (fail_x B ⟨u, 0⟩ 3) rfl (fun _ => rfl) (fun _ => rfl) rfl (fun _ => rfl) (fun _ => rfl) rfl ?_
      simp -implicitDefEqProofs (maxSteps := 500000) (disch := first | decide | omega) only [↓preS, ↓reduceIte, allS, Nat.reduceBEq, Nat.reduceAdd, Nat.reduceEqDiff, reduceIte, Int.reduceToNat, Int.reduceLE, Int.reduceLT, Nat.reduceLeDiff, Nat.reduceMul, Nat.reducePow, Nat.reduceLT, Int.reduceBEq, Int.reduceBNe, Int.reduceAdd, Int.reduceSub, Int.reduceMul, Int.reduceGT, Int.reduceGE, decS, Int.reduceNe, Int.reduceEq]
      exact tail22 B hB2 k (failR ⟨u, 0⟩ 3) h1
    · rw [if_neg (by omega)]
      simp -implicitDefEqProofs (maxSteps := 500000) (disch := first | decide | omega) only [↓preS, ↓reduceIte, allS, Nat.reduceBEq, Nat.reduceAdd, Nat.reduceEqDiff, reduceIte, Int.reduceToNat, Int.reduceLE, Int.reduceLT, Nat.reduceLeDiff, Nat.reduceMul, Nat.reducePow, Nat.reduceLT, Int.reduceBEq, Int.reduceBNe, Int.reduceAdd, Int.reduceSub, Int.reduceMul, Int.reduceGT, Int.reduceGE, decS, Int.reduceNe, Int.reduceEq, fillOk, fillAV, XS, XO]
      exact tail22 B hB2 k ⟨u, 0⟩ h1
  · have e9 : (if k < 1 ∨ 11 < k then failR ⟨u, e⟩ 3 else ⟨u, e⟩) = (⟨u, e⟩ : RS) := by
      split
      · unfold failR; simp only [he, if_false]
      · rfl
    rw [e9]
    simp -implicitDefEqProofs (maxSteps := 500000) (disch := first | decide | omega) only [↓preS, ↓reduceIte, allS, Nat.reduceBEq, Nat.reduceAdd, Nat.reduceEqDiff, reduceIte, Int.reduceToNat, Int.reduceLE, Int.reduceLT, Nat.reduceLeDiff, Nat.reduceMul, Nat.reducePow, Nat.reduceLT, Int.reduceBEq, Int.reduceBNe, Int.reduceAdd, Int.reduceSub, Int.reduceMul, Int.reduceGT, Int.reduceGE, decS, Int.reduceNe, Int.reduceEq, fillOk, fillAV, XS, XO]
    exact tail22 B hB2 k ⟨u, e⟩ h1
end Go.Proofs.Ytgpipheibnlkhaa
