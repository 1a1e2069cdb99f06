/- What functions of the program compute. No condition. -/
import Derived.Test.YtceifhcjbmodaaaP3
set_option linter.unusedSimpArgs false
set_option linter.unusedVariables false
namespace Go.Proofs.Ytceifhcjbmodaaa
open Go Go.Ab

/-! ### Who is live, where an application is -/
def liveP (a : App) : Bool := a.state == 1 || a.state == 2
theorem live_ok (a : App) : PCall Try.prog 11 [APP a] (.bool (liveP a)) := by
  unfold PCall
  refine acall_of is11 (by simp) ?_
  unfold cc11 liveP
  by_cases h1 : a.state = 1
  · simp -implicitDefEqProofs (maxSteps := 500000) (disch := first | decide | omega) only [↓preS, ↓reduceIte, allS, Nat.reduceBEq, Nat.reduceAdd, Nat.reduceEqDiff, reduceIte, Int.reduceToNat, Int.reduceLE, Int.reduceLT, Nat.reduceLeDiff, Nat.reduceMul, Nat.reducePow, Nat.reduceLT, Int.reduceBEq, Int.reduceBNe, Int.reduceAdd, Int.reduceSub, Int.reduceMul, Int.reduceGT, Int.reduceGE, decS, Int.reduceNe, Int.reduceEq, appS]
    simp [h1]
  · simp -implicitDefEqProofs (maxSteps := 500000) (disch := first | decide | omega) only [↓preS, ↓reduceIte, allS, Nat.reduceBEq, Nat.reduceAdd, Nat.reduceEqDiff, reduceIte, Int.reduceToNat, Int.reduceLE, Int.reduceLT, Nat.reduceLeDiff, Nat.reduceMul, Nat.reducePow, Nat.reduceLT, Int.reduceBEq, Int.reduceBNe, Int.reduceAdd, Int.reduceSub, Int.reduceMul, Int.reduceGT, Int.reduceGE, decS, Int.reduceNe, Int.reduceEq, appS]
    rfl
theorem over_ok (a : App) : PCall Try.prog 19 [APP a] (.bool (!liveP a)) := by
  unfold PCall
  refine acall_of is19 (by simp) ?_
  unfold cc19
  simp -implicitDefEqProofs (maxSteps := 500000) (disch := first | decide | omega) only [↓preS, ↓reduceIte, allS, Nat.reduceBEq, Nat.reduceAdd, Nat.reduceEqDiff, reduceIte, Int.reduceToNat, Int.reduceLE, Int.reduceLT, Nat.reduceLeDiff, Nat.reduceMul, Nat.reducePow, Nat.reduceLT, Int.reduceBEq, Int.reduceBNe, Int.reduceAdd, Int.reduceSub, Int.reduceMul, Int.reduceGT, Int.reduceGE, decS, Int.reduceNe, Int.reduceEq, appS]
  refine acK_of (FCall.of (lent := false) (live_ok a) (.refl rfl) rfl (by simp)) ?_
  simp -implicitDefEqProofs (maxSteps := 500000) (disch := first | decide | omega) only [↓preS, ↓reduceIte, allS, Nat.reduceBEq, Nat.reduceAdd, Nat.reduceEqDiff, reduceIte, Int.reduceToNat, Int.reduceLE, Int.reduceLT, Nat.reduceLeDiff, Nat.reduceMul, Nat.reducePow, Nat.reduceLT, Int.reduceBEq, Int.reduceBNe, Int.reduceAdd, Int.reduceSub, Int.reduceMul, Int.reduceGT, Int.reduceGE, decS, Int.reduceNe, Int.reduceEq]
def idP (p : Int) (a : App) : Bool := a.id == p
theorem is33_ok (x : App) (p : Int) : ACall Try.prog 33 [APP x, .ref 0 0 0] [.box [.int .i64 p]] fun y G => y = .bool (idP p x) ∧ G = [.box [.int .i64 p]] := by
  have key : ACall Try.prog 33 [APP x, .ref 0 0 0] [.box [.int .i64 p]] fun y G => y = .bool (idP p x) ∧ ∃ o, G = [.box [.int .i64 p], o] := by
    refine acall_at is33 (by simp) rfl ?_
    unfold cc33
    simp -implicitDefEqProofs (maxSteps := 500000) (disch := first | decide | omega) only [↓preS, ↓reduceIte, allS, Nat.reduceBEq, Nat.reduceAdd, Nat.reduceEqDiff, reduceIte, Int.reduceToNat, Int.reduceLE, Int.reduceLT, Nat.reduceLeDiff, Nat.reduceMul, Nat.reducePow, Nat.reduceLT, Int.reduceBEq, Int.reduceBNe, Int.reduceAdd, Int.reduceSub, Int.reduceMul, Int.reduceGT, Int.reduceGE, decS, Int.reduceNe, Int.reduceEq, appS]
    exact ⟨rfl, _, rfl⟩
  refine key.sub ?_
  rintro y G ⟨rfl, o, rfl⟩
  refine ⟨_, _, ?_, rfl, rfl⟩
  (refine Sub.ofL [some 0] rfl (by simp) (by decide) (by simp [partL, AO.ro, AV.ro, AV.roL, names, AO.empty, SB, U8, SI, I64, STR] <;> (try and_intros) <;> rfl) (by simp [AO.bo, AV.bo, AV.boL, names] <;> (try and_intros) <;> rfl) ?_ <;> (try simp only [List.map_cons, List.map_nil, regsL, AV.ro, AV.roL, AV.bo, AV.boL, names, get_here, get_there, Nat.reduceBEq, List.getD_cons_zero, List.getD_cons_succ, List.getD_nil, and_true, true_and, Nat.reduceLT, List.length_cons, List.length_nil, Nat.reduceAdd, decide_true, Option.isSome_some, Bool.true_or, Bool.and_self, Option.isSome_none, Bool.false_or, beq_self_eq_true, wk0_self, wk0_nils]) <;> (try and_intros) <;> (first | done | rfl | exact .inl rfl | exact .inr ⟨rfl, _, _, rfl⟩ | (simp; done) | (simp; omega) | (refine .inl ?_; simp; done) | (refine .inl ?_; simp; omega)))
theorem _root_.Go.Ab.ACall.pad {P : Program} {f : FuncId} {args : List AV} {Post : AV → List AO → Prop} (h : ACall P f args [.dead] Post) : ACall P f args [] Post := by
  refine ⟨h.1, fun E vs hm hl hv => ?_⟩
  have t : Trans E 0 E 1 := ⟨rfl, rfl, rfl, Nat.le_refl _, fun _ _ _ => rfl, fun _ _ h => h, fun _ _ h => .inl h, fun _ h => .inl h, fun _ _ => rfl, by omega⟩
  have hm1 : HM E [.dead] := ⟨fun id o ho => by
      match id, ho with
      | 0, ho => simp at ho; subst ho; trivial
      | k + 1, ho => simp at ho, fun i j oi oj Li Lj hij hi hj hli => by
      match i, hi with
      | 0, hi => simp at hi; subst hi; simp [AO.live] at hli
      | k + 1, hi => simp at hi, hm.disj, hm.bound, hm.sbound, hm.sub⟩
  refine (h.2 E vs hm1 hl fun k y hk => (hv k y hk).trans hm t).mono fun e w' ⟨v, y, H', E', h1, h2, h3, h4, h5, h6⟩ => ⟨v, y, H', E', h1, h2, h3, h4, ?_, h6⟩
  exact t.trans h5
def FN33 : AV := .fn (.func 33) [] [.ref 0 0 0]
set_option maxHeartbeats 1000000 in
theorem idx18 (t : Bool) (p : Int) (l : List App) (hl : l.length < 2 ^ 63) : ACall Try.prog 18 [.sl t 14 (l.map APP), FN33] [.box [.int .i64 p]] fun y G => y = .int .i64 (idxI (idP p) l) ∧ G = [.box [.int .i64 p]] := by
  refine acall_at is18 (by simp) rfl ?_
  unfold cc18 FN33
  simp -implicitDefEqProofs (maxSteps := 500000) (disch := first | decide | omega) only [↓preS, ↓reduceIte, allS, Nat.reduceBEq, Nat.reduceAdd, Nat.reduceEqDiff, reduceIte, Int.reduceToNat, Int.reduceLE, Int.reduceLT, Nat.reduceLeDiff, Nat.reduceMul, Nat.reducePow, Nat.reduceLT, Int.reduceBEq, Int.reduceBNe, Int.reduceAdd, Int.reduceSub, Int.reduceMul, Int.reduceGT, Int.reduceGE, decS, Int.reduceNe, Int.reduceEq]
  unfold cc18L0
  simp -implicitDefEqProofs (maxSteps := 500000) (disch := first | decide | omega) only [↓preS, ↓reduceIte, allS, Nat.reduceBEq, Nat.reduceAdd, Nat.reduceEqDiff, reduceIte, Int.reduceToNat, Int.reduceLE, Int.reduceLT, Nat.reduceLeDiff, Nat.reduceMul, Nat.reducePow, Nat.reduceLT, Int.reduceBEq, Int.reduceBNe, Int.reduceAdd, Int.reduceSub, Int.reduceMul, Int.reduceGT, Int.reduceGE, decS, Int.reduceNe, Int.reduceEq]
  refine aw_loopS (σ := Nat) (fun i => ⟨[(0, .sl t 14 (l.map APP)), (1, .fn (.func 33) [] [.ref 0 0 0]), (7, .int .i64 (l.length : Int)), (8, .int .i64 (i : Int))], [.box [.int .i64 p]]⟩)
    (fun i => i ≤ l.length ∧ ∀ j, (h : j < i) → (h2 : j < l.length) → idP p l[j] = false) (fun i => l.length - i) 0 (.inl rfl) ⟨by omega, fun j h => by omega⟩ ?_
  rintro i ⟨hii, hn⟩
  unfold cc18l0
  by_cases hil : i < l.length
  · have hg : l.getD i default = l[i] := by simp [hil]
    simp -implicitDefEqProofs (maxSteps := 500000) (disch := first | decide | omega) only [↓preS, ↓reduceIte, allS, Nat.reduceBEq, Nat.reduceAdd, Nat.reduceEqDiff, reduceIte, Int.reduceToNat, Int.reduceLE, Int.reduceLT, Nat.reduceLeDiff, Nat.reduceMul, Nat.reducePow, Nat.reduceLT, Int.reduceBEq, Int.reduceBNe, Int.reduceAdd, Int.reduceSub, Int.reduceMul, Int.reduceGT, Int.reduceGE, decS, Int.reduceNe, Int.reduceEq, appS]
    refine ⟨by omega, by omega, ?_⟩
    refine (is33_ok _ p).to ?_
    rintro y G ⟨rfl, rfl⟩
    rw [hg]
    cases hp : idP p l[i]
    · simp -implicitDefEqProofs (maxSteps := 500000) (disch := first | decide | omega) only [↓preS, ↓reduceIte, allS, Nat.reduceBEq, Nat.reduceAdd, Nat.reduceEqDiff, reduceIte, Int.reduceToNat, Int.reduceLE, Int.reduceLT, Nat.reduceLeDiff, Nat.reduceMul, Nat.reducePow, Nat.reduceLT, Int.reduceBEq, Int.reduceBNe, Int.reduceAdd, Int.reduceSub, Int.reduceMul, Int.reduceGT, Int.reduceGE, decS, Int.reduceNe, Int.reduceEq]
      refine ⟨i + 1, .inl rfl, ⟨by omega, fun j h h2 => ?_⟩, by omega⟩
      by_cases hj : j = i
      · subst hj; exact hp
      · exact hn j (by omega) h2
    · simp -implicitDefEqProofs (maxSteps := 500000) (disch := first | decide | omega) only [↓preS, ↓reduceIte, allS, Nat.reduceBEq, Nat.reduceAdd, Nat.reduceEqDiff, reduceIte, Int.reduceToNat, Int.reduceLE, Int.reduceLT, Nat.reduceLeDiff, Nat.reduceMul, Nat.reducePow, Nat.reduceLT, Int.reduceBEq, Int.reduceBNe, Int.reduceAdd, Int.reduceSub, Int.reduceMul, Int.reduceGT, Int.reduceGE, decS, Int.reduceNe, Int.reduceEq]
      rw [idx_at hil (fun j hj => hn j hj (by omega)) hp]
  · have : i = l.length := by omega
    subst this
    simp -implicitDefEqProofs (maxSteps := 500000) (disch := first | decide | omega) only [↓preS, ↓reduceIte, allS, Nat.reduceBEq, Nat.reduceAdd, Nat.reduceEqDiff, reduceIte, Int.reduceToNat, Int.reduceLE, Int.reduceLT, Nat.reduceLeDiff, Nat.reduceMul, Nat.reducePow, Nat.reduceLT, Int.reduceBEq, Int.reduceBNe, Int.reduceAdd, Int.reduceSub, Int.reduceMul, Int.reduceGT, Int.reduceGE, decS, Int.reduceNe, Int.reduceEq]
    rw [idx_no fun j hj => hn j hj hj]
set_option maxHeartbeats 1000000 in
theorem idx18o (t : Bool) (l : List App) (hl : l.length < 2 ^ 62) : ACall Try.prog 18 [.sl t 14 (l.map APP), .fn (.func 19) [] []] [] fun y G => y = .int .i64 (idxI (fun a => !liveP a) l) := by
  have key : ACall Try.prog 18 [.sl t 14 (l.map APP), .fn (.func 19) [] []] [.dead] fun y G => y = .int .i64 (idxI (fun a => !liveP a) l) := by
    refine acall_at is18 (by simp) rfl ?_
    unfold cc18
    simp -implicitDefEqProofs (maxSteps := 500000) (disch := first | decide | omega) only [↓preS, ↓reduceIte, allS, Nat.reduceBEq, Nat.reduceAdd, Nat.reduceEqDiff, reduceIte, Int.reduceToNat, Int.reduceLE, Int.reduceLT, Nat.reduceLeDiff, Nat.reduceMul, Nat.reducePow, Nat.reduceLT, Int.reduceBEq, Int.reduceBNe, Int.reduceAdd, Int.reduceSub, Int.reduceMul, Int.reduceGT, Int.reduceGE, decS, Int.reduceNe, Int.reduceEq]
    unfold cc18L0
    simp -implicitDefEqProofs (maxSteps := 500000) (disch := first | decide | omega) only [↓preS, ↓reduceIte, allS, Nat.reduceBEq, Nat.reduceAdd, Nat.reduceEqDiff, reduceIte, Int.reduceToNat, Int.reduceLE, Int.reduceLT, Nat.reduceLeDiff, Nat.reduceMul, Nat.reducePow, Nat.reduceLT, Int.reduceBEq, Int.reduceBNe, Int.reduceAdd, Int.reduceSub, Int.reduceMul, Int.reduceGT, Int.reduceGE, decS, Int.reduceNe, Int.reduceEq]
    refine aw_loopS (σ := Nat) (fun i => ⟨[(0, .sl t 14 (l.map APP)), (1, .fn (.func 19) [] []), (7, .int .i64 (l.length : Int)), (8, .int .i64 (i : Int))], [.dead]⟩)
      (fun i => i ≤ l.length ∧ ∀ j, (h : j < i) → (h2 : j < l.length) → (!liveP l[j]) = false) (fun i => l.length - i) 0 (.inl rfl) ⟨by omega, fun j h => by omega⟩ ?_
    rintro i ⟨hii, hn⟩
    unfold cc18l0
    by_cases hil : i < l.length
    · have hg : l.getD i default = l[i] := by simp [hil]
      simp -implicitDefEqProofs (maxSteps := 500000) (disch := first | decide | omega) only [↓preS, ↓reduceIte, allS, Nat.reduceBEq, Nat.reduceAdd, Nat.reduceEqDiff, reduceIte, Int.reduceToNat, Int.reduceLE, Int.reduceLT, Nat.reduceLeDiff, Nat.reduceMul, Nat.reducePow, Nat.reduceLT, Int.reduceBEq, Int.reduceBNe, Int.reduceAdd, Int.reduceSub, Int.reduceMul, Int.reduceGT, Int.reduceGE, decS, Int.reduceNe, Int.reduceEq, appS]
      refine ⟨by omega, by omega, ?_⟩
      refine acK_of (FCall.of (lent := false) (over_ok _) (.refl rfl) rfl (by simp)) ?_
      rw [hg]
      cases hp : (!liveP l[i])
      · simp -implicitDefEqProofs (maxSteps := 500000) (disch := first | decide | omega) only [↓preS, ↓reduceIte, allS, Nat.reduceBEq, Nat.reduceAdd, Nat.reduceEqDiff, reduceIte, Int.reduceToNat, Int.reduceLE, Int.reduceLT, Nat.reduceLeDiff, Nat.reduceMul, Nat.reducePow, Nat.reduceLT, Int.reduceBEq, Int.reduceBNe, Int.reduceAdd, Int.reduceSub, Int.reduceMul, Int.reduceGT, Int.reduceGE, decS, Int.reduceNe, Int.reduceEq]
        refine ⟨i + 1, .inl rfl, ⟨by omega, fun j h h2 => ?_⟩, by omega⟩
        by_cases hj : j = i
        · subst hj; exact hp
        · exact hn j (by omega) h2
      · simp -implicitDefEqProofs (maxSteps := 500000) (disch := first | decide | omega) only [↓preS, ↓reduceIte, allS, Nat.reduceBEq, Nat.reduceAdd, Nat.reduceEqDiff, reduceIte, Int.reduceToNat, Int.reduceLE, Int.reduceLT, Nat.reduceLeDiff, Nat.reduceMul, Nat.reducePow, Nat.reduceLT, Int.reduceBEq, Int.reduceBNe, Int.reduceAdd, Int.reduceSub, Int.reduceMul, Int.reduceGT, Int.reduceGE, decS, Int.reduceNe, Int.reduceEq]
        rw [idx_at hil (fun j hj => hn j hj (by omega)) hp]
    · have : i = l.length := by omega
      subst this
      simp -implicitDefEqProofs (maxSteps := 500000) (disch := first | decide | omega) only [↓preS, ↓reduceIte, allS, Nat.reduceBEq, Nat.reduceAdd, Nat.reduceEqDiff, reduceIte, Int.reduceToNat, Int.reduceLE, Int.reduceLT, Nat.reduceLeDiff, Nat.reduceMul, Nat.reducePow, Nat.reduceLT, Int.reduceBEq, Int.reduceBNe, Int.reduceAdd, Int.reduceSub, Int.reduceMul, Int.reduceGT, Int.reduceGE, decS, Int.reduceNe, Int.reduceEq]
      rw [idx_no fun j hj => hn j hj hj]
  exact key.pad
def manyN (l : List App) : Nat := (l.filter liveP).length
set_option maxHeartbeats 1000000 in
theorem many_ok (t : Bool) (l : List App) (hl : l.length < 2 ^ 62) : PCall Try.prog 16 [.sl t 14 (l.map APP)] (.int .i64 (manyN l)) := by
  unfold PCall
  refine acall_of is16 (by simp) ?_
  unfold cc16
  simp -implicitDefEqProofs (maxSteps := 500000) (disch := first | decide | omega) only [↓preS, ↓reduceIte, allS, Nat.reduceBEq, Nat.reduceAdd, Nat.reduceEqDiff, reduceIte, Int.reduceToNat, Int.reduceLE, Int.reduceLT, Nat.reduceLeDiff, Nat.reduceMul, Nat.reducePow, Nat.reduceLT, Int.reduceBEq, Int.reduceBNe, Int.reduceAdd, Int.reduceSub, Int.reduceMul, Int.reduceGT, Int.reduceGE, decS, Int.reduceNe, Int.reduceEq]
  unfold cc16L0
  simp -implicitDefEqProofs (maxSteps := 500000) (disch := first | decide | omega) only [↓preS, ↓reduceIte, allS, Nat.reduceBEq, Nat.reduceAdd, Nat.reduceEqDiff, reduceIte, Int.reduceToNat, Int.reduceLE, Int.reduceLT, Nat.reduceLeDiff, Nat.reduceMul, Nat.reducePow, Nat.reduceLT, Int.reduceBEq, Int.reduceBNe, Int.reduceAdd, Int.reduceSub, Int.reduceMul, Int.reduceGT, Int.reduceGE, decS, Int.reduceNe, Int.reduceEq]
  refine aw_loopS (σ := Nat) (fun i => ⟨[(3, .int .i64 (manyN (l.take i))), (6, .sl t 14 (l.map APP)), (7, .int .i64 (l.length : Int)), (8, .int .i64 (i : Int))], []⟩)
    (fun i => i ≤ l.length) (fun i => l.length - i) 0 (.inl rfl) (by omega) ?_
  intro i hii
  unfold cc16l0
  by_cases hil : i < l.length
  · have hg : l.getD i default = l[i] := by simp [hil]
    have e1 : manyN (l.take (i + 1)) = manyN (l.take i) + (if liveP l[i] then 1 else 0) := by
      unfold manyN
      rw [List.take_succ_eq_append_getElem hil, List.filter_append, List.length_append]
      congr 1
      simp only [List.filter_cons, List.filter_nil]
      split <;> rfl
    have hlen : manyN (l.take i) ≤ i := by
      unfold manyN
      exact Nat.le_trans (List.length_filter_le _ _) (by simp; omega)
    simp -implicitDefEqProofs (maxSteps := 500000) (disch := first | decide | omega) only [↓preS, ↓reduceIte, allS, Nat.reduceBEq, Nat.reduceAdd, Nat.reduceEqDiff, reduceIte, Int.reduceToNat, Int.reduceLE, Int.reduceLT, Nat.reduceLeDiff, Nat.reduceMul, Nat.reducePow, Nat.reduceLT, Int.reduceBEq, Int.reduceBNe, Int.reduceAdd, Int.reduceSub, Int.reduceMul, Int.reduceGT, Int.reduceGE, decS, Int.reduceNe, Int.reduceEq, appS, hg, List.append_nil]
    refine ⟨by omega, by omega, ?_⟩
    refine acK_of (FCall.of (lent := false) (live_ok _) (.refl rfl) rfl (by simp)) ?_
    cases hp : liveP l[i]
    · rw [hp] at e1
      simp -implicitDefEqProofs (maxSteps := 500000) (disch := first | decide | omega) only [↓preS, ↓reduceIte, allS, Nat.reduceBEq, Nat.reduceAdd, Nat.reduceEqDiff, reduceIte, Int.reduceToNat, Int.reduceLE, Int.reduceLT, Nat.reduceLeDiff, Nat.reduceMul, Nat.reducePow, Nat.reduceLT, Int.reduceBEq, Int.reduceBNe, Int.reduceAdd, Int.reduceSub, Int.reduceMul, Int.reduceGT, Int.reduceGE, decS, Int.reduceNe, Int.reduceEq]
      refine ⟨i + 1, ?_, by omega, by omega⟩
      rw [e1]
      (refine Sub.ofL [] rfl (by simp) (by decide) trivial rfl ?_ <;> (try simp only [List.map_cons, List.map_nil, regsL, AV.ro, AV.roL, AV.bo, AV.boL, names, get_here, get_there, Nat.reduceBEq, List.getD_cons_zero, List.getD_cons_succ, List.getD_nil, and_true, true_and, Nat.reduceLT, List.length_cons, List.length_nil, Nat.reduceAdd, decide_true, Option.isSome_some, Bool.true_or, Bool.and_self, Option.isSome_none, Bool.false_or, beq_self_eq_true, wk0_self, wk0_nils]) <;> (try and_intros) <;> (first | done | rfl | exact .inl rfl | exact .inr ⟨rfl, _, _, rfl⟩ | (simp; done) | (simp; omega) | (refine .inl ?_; simp; done) | (refine .inl ?_; simp; omega)))
    · rw [hp] at e1
      simp -implicitDefEqProofs (maxSteps := 500000) (disch := first | decide | omega) only [↓preS, ↓reduceIte, allS, Nat.reduceBEq, Nat.reduceAdd, Nat.reduceEqDiff, reduceIte, Int.reduceToNat, Int.reduceLE, Int.reduceLT, Nat.reduceLeDiff, Nat.reduceMul, Nat.reducePow, Nat.reduceLT, Int.reduceBEq, Int.reduceBNe, Int.reduceAdd, Int.reduceSub, Int.reduceMul, Int.reduceGT, Int.reduceGE, decS, Int.reduceNe, Int.reduceEq]
      refine ⟨i + 1, ?_, by omega, by omega⟩
      rw [e1]
      (refine Sub.ofL [] rfl (by simp) (by decide) trivial rfl ?_ <;> (try simp only [List.map_cons, List.map_nil, regsL, AV.ro, AV.roL, AV.bo, AV.boL, names, get_here, get_there, Nat.reduceBEq, List.getD_cons_zero, List.getD_cons_succ, List.getD_nil, and_true, true_and, Nat.reduceLT, List.length_cons, List.length_nil, Nat.reduceAdd, decide_true, Option.isSome_some, Bool.true_or, Bool.and_self, Option.isSome_none, Bool.false_or, beq_self_eq_true, wk0_self, wk0_nils]) <;> (try and_intros) <;> (first | done | rfl | exact .inl rfl | exact .inr ⟨rfl, _, _, rfl⟩ | (simp; done) | (simp; omega) | (refine .inl ?_; simp; done) | (refine .inl ?_; simp; omega)))
  · have : i = l.length := by omega
    subst this
    rw [List.take_length]
    simp -implicitDefEqProofs (maxSteps := 500000) (disch := first | decide | omega) only [↓preS, ↓reduceIte, allS, Nat.reduceBEq, Nat.reduceAdd, Nat.reduceEqDiff, reduceIte, Int.reduceToNat, Int.reduceLE, Int.reduceLT, Nat.reduceLeDiff, Nat.reduceMul, Nat.reducePow, Nat.reduceLT, Int.reduceBEq, Int.reduceBNe, Int.reduceAdd, Int.reduceSub, Int.reduceMul, Int.reduceGT, Int.reduceGE, decS, Int.reduceNe, Int.reduceEq]
theorem at_ok (b : Fl) (s : Sta) (id : Int) (hl : s.apps.length < 2 ^ 62) : PCall Try.prog 15 [.agg (stC b s), .int .i64 id] (.int .i64 (idxI (idP id) s.apps)) := by
  unfold PCall
  refine acall_of is15 (by simp) ?_
  unfold cc15 stC
  simp -implicitDefEqProofs (maxSteps := 500000) (disch := first | decide | omega) only [↓preS, ↓reduceIte, allS, Nat.reduceBEq, Nat.reduceAdd, Nat.reduceEqDiff, reduceIte, Int.reduceToNat, Int.reduceLE, Int.reduceLT, Nat.reduceLeDiff, Nat.reduceMul, Nat.reducePow, Nat.reduceLT, Int.reduceBEq, Int.reduceBNe, Int.reduceAdd, Int.reduceSub, Int.reduceMul, Int.reduceGT, Int.reduceGE, decS, Int.reduceNe, Int.reduceEq]
  refine ((idx18 b.a id s.apps (by omega)).frame [1] rfl (by simp) (by simp) ?_ rfl).to ?_
  · intro k o hk
    match k, hk with
    | 0, hk => simp only [List.getElem?_cons_zero, Option.some.injEq] at hk; subst hk; exact ⟨rfl, rfl⟩
    | k + 1, hk => simp at hk
  rintro y G ⟨y0, Hr, ⟨rfl, rfl⟩, rfl, rfl⟩
  simp -implicitDefEqProofs (maxSteps := 500000) (disch := first | decide | omega) only [↓preS, ↓reduceIte, allS, Nat.reduceBEq, Nat.reduceAdd, Nat.reduceEqDiff, reduceIte, Int.reduceToNat, Int.reduceLE, Int.reduceLT, Nat.reduceLeDiff, Nat.reduceMul, Nat.reducePow, Nat.reduceLT, Int.reduceBEq, Int.reduceBNe, Int.reduceAdd, Int.reduceSub, Int.reduceMul, Int.reduceGT, Int.reduceGE, decS, Int.reduceNe, Int.reduceEq, AV.ren, AO.ren, spl, setAll]
end Go.Proofs.Ytceifhcjbmodaaa
