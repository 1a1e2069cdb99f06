/- What functions of the program compute. No condition. -/
import Derived.Test.YtglimfdofgadjaaA4
set_option linter.unusedSimpArgs false
set_option linter.unusedVariables false
namespace Go.Proofs.Ytglimfdofgadjaa
open Go Go.Ab

def takeL (p : Int) (l : List Ask) : List Ask × Bool :=
  let i := idxI (prioP p) l
  if i < 0 then (l, false)
  else
    let x := l.getD i.toNat default
    if x.count - 1 ≤ 0 then (l.take i.toNat ++ l.drop (i.toNat + 1), true)
    else (l.set i.toNat { x with missed := 0, count := x.count - 1 }, true)
def takeR (q : List Ask × Bool) : AV := .tup [.sl false 8 (q.1.map ASK), .bool q.2]
set_option maxHeartbeats 4000000 in
theorem take_ok (t : Bool) (p : Int) (l : List Ask) (hl : l.length ≤ 2 ^ 40) (hm : ∀ a ∈ l, -2 ^ 62 < a.count ∧ a.count < 2 ^ 62) : PCall Try.prog 14 [.sl t 8 (l.map ASK), .int .i64 p] (takeR (takeL p l)) := by
  refine PCall.wk3 (acall_of is14 (by simp) ?_)
  unfold cc14 takeL
  simp -implicitDefEqProofs (maxSteps := 500000) (disch := first | decide | omega) only [↓preS, ↓reduceIte, allS, Nat.reduceBEq, Nat.reduceAdd, Nat.reduceEqDiff, reduceIte, Int.reduceToNat, Int.reduceLE, Int.reduceLT, Nat.reduceLeDiff, Nat.reduceMul, Nat.reducePow, Nat.reduceLT, Int.reduceBEq, Int.reduceBNe, Int.reduceAdd, Int.reduceSub, Int.reduceMul, Int.reduceGT, Int.reduceGE, decS, Int.reduceNe, Int.reduceEq]
  refine acK_new (own_ok t l hl) rfl rfl ?_
  rintro y G ⟨rfl, rfl⟩
  simp -implicitDefEqProofs (maxSteps := 500000) (disch := first | decide | omega) only [↓preS, ↓reduceIte, allS, Nat.reduceBEq, Nat.reduceAdd, Nat.reduceEqDiff, reduceIte, Int.reduceToNat, Int.reduceLE, Int.reduceLT, Nat.reduceLeDiff, Nat.reduceMul, Nat.reducePow, Nat.reduceLT, Int.reduceBEq, Int.reduceBNe, Int.reduceAdd, Int.reduceSub, Int.reduceMul, Int.reduceGT, Int.reduceGE, decS, Int.reduceNe, Int.reduceEq, AV.ren, AO.ren, up]
  refine acK_of (FCall.of (lent := true) (at_ok true p l (by omega)) ?_ rfl (fun _ => rfl)) ?_
  · exact .cons (Vw.ownMap rfl) (.cons (Vw.refl rfl) .nil)
  simp -implicitDefEqProofs (maxSteps := 500000) (disch := first | decide | omega) only [↓preS, ↓reduceIte, allS, Nat.reduceBEq, Nat.reduceAdd, Nat.reduceEqDiff, reduceIte, Int.reduceToNat, Int.reduceLE, Int.reduceLT, Nat.reduceLeDiff, Nat.reduceMul, Nat.reducePow, Nat.reduceLT, Int.reduceBEq, Int.reduceBNe, Int.reduceAdd, Int.reduceSub, Int.reduceMul, Int.reduceGT, Int.reduceGE, decS, Int.reduceNe, Int.reduceEq]
  rcases idx_cases (prioP p) l with ⟨h1, h2⟩ | ⟨i, hi, h1, h2, h3⟩
  · rw [h1]
    simp -implicitDefEqProofs (maxSteps := 500000) (disch := first | decide | omega) only [↓preS, ↓reduceIte, allS, Nat.reduceBEq, Nat.reduceAdd, Nat.reduceEqDiff, reduceIte, Int.reduceToNat, Int.reduceLE, Int.reduceLT, Nat.reduceLeDiff, Nat.reduceMul, Nat.reducePow, Nat.reduceLT, Int.reduceBEq, Int.reduceBNe, Int.reduceAdd, Int.reduceSub, Int.reduceMul, Int.reduceGT, Int.reduceGE, decS, Int.reduceNe, Int.reduceEq]
    exact .inl (.inl (.inl rfl))
  · rw [h1]
    have hg : l.getD i default = l[i] := by simp [hi]
    have hmi := hm _ (List.getElem_mem hi)
    rw [← hg] at hmi
    have hs : ∀ x : Ask, (l.set i x).getD i default = x := fun x => by simp [List.getD_eq_getElem?_getD, hi]
    have hi0 : ¬ ((i : Int) < 0) := by omega
    by_cases hc : (l.getD i default).count - 1 ≤ 0
    · simp -implicitDefEqProofs (maxSteps := 500000) (disch := first | decide | omega) only [↓preS, ↓reduceIte, allS, Nat.reduceBEq, Nat.reduceAdd, Nat.reduceEqDiff, reduceIte, Int.reduceToNat, Int.reduceLE, Int.reduceLT, Nat.reduceLeDiff, Nat.reduceMul, Nat.reducePow, Nat.reduceLT, Int.reduceBEq, Int.reduceBNe, Int.reduceAdd, Int.reduceSub, Int.reduceMul, Int.reduceGT, Int.reduceGE, decS, Int.reduceNe, Int.reduceEq, askS, askT, List.length_set, hs, List.set_set]
      refine ⟨by omega, by omega, by omega, by omega, by omega, by omega, by omega, by omega, by omega, by omega, by omega, by omega, ?_⟩
      generalize hx : ({ prio := (l.getD i default).prio, label := (l.getD i default).label, mem := (l.getD i default).mem, cores := (l.getD i default).cores, count := (l.getD i default).count - 1, node := (l.getD i default).node, rack := (l.getD i default).rack, missed := 0 } : Ask) = x
      have key := del_ok (l.set i x) i (i + 1) (by omega) (by simp; omega) (by simp; omega)
      have ei : ((i + 1 : Nat) : Int) = (i : Int) + 1 := by omega
      rw [List.length_set, List.take_set_of_le (Nat.le_refl i), List.drop_set_of_lt (by omega), ei] at key
      refine key.to ?_
      rintro y G ⟨rfl, zs, rfl⟩
      have hlen : (l.take i ++ l.drop (i + 1)).length = i + (l.length - (i + 1)) := by simp; omega
      simp -implicitDefEqProofs (maxSteps := 500000) (disch := first | decide | omega) only [↓preS, ↓reduceIte, allS, Nat.reduceBEq, Nat.reduceAdd, Nat.reduceEqDiff, reduceIte, Int.reduceToNat, Int.reduceLE, Int.reduceLT, Nat.reduceLeDiff, Nat.reduceMul, Nat.reducePow, Nat.reduceLT, Int.reduceBEq, Int.reduceBNe, Int.reduceAdd, Int.reduceSub, Int.reduceMul, Int.reduceGT, Int.reduceGE, decS, Int.reduceNe, Int.reduceEq, askS]
      rw [if_neg hi0, if_pos hc, if_pos (by omega), ← hlen, List.take_left' rfl]
      exact .inl (.inl (.inl rfl))
    · simp -implicitDefEqProofs (maxSteps := 500000) (disch := first | decide | omega) only [↓preS, ↓reduceIte, allS, Nat.reduceBEq, Nat.reduceAdd, Nat.reduceEqDiff, reduceIte, Int.reduceToNat, Int.reduceLE, Int.reduceLT, Nat.reduceLeDiff, Nat.reduceMul, Nat.reducePow, Nat.reduceLT, Int.reduceBEq, Int.reduceBNe, Int.reduceAdd, Int.reduceSub, Int.reduceMul, Int.reduceGT, Int.reduceGE, decS, Int.reduceNe, Int.reduceEq, askS, askT, List.length_set, hs, List.set_set]
      refine ⟨by omega, by omega, by omega, by omega, by omega, by omega, by omega, by omega, by omega, by omega, by omega, by omega, ?_⟩
      rw [List.take_of_length_le (by simp), if_neg hi0, if_neg hc]
      exact .inl (.inl (.inl rfl))
def VEC (v : Int × Int) : AV := .agg [.int .i64 v.1, .int .i64 v.2]
def pendF (lb : Int) (v : Int × Int) (a : Ask) : Int × Int := if lb = a.label then (v.1 + a.mem * a.count, v.2 + a.cores * a.count) else v
def pendL (lb : Int) (l : List Ask) : Int × Int := l.foldl (pendF lb) (0, 0)
structure Rng (a : Ask) : Prop where
  m0 : 0 ≤ a.mem
  m1 : a.mem ≤ 2 ^ 30
  c0 : 0 ≤ a.cores
  c1 : a.cores ≤ 2 ^ 30
  n0 : 0 ≤ a.count
  n1 : a.count ≤ 50
theorem mul_rng {m c : Int} (h0 : 0 ≤ m) (h1 : m ≤ 2 ^ 30) (h2 : 0 ≤ c) (h3 : c ≤ 50) : 0 ≤ m * c ∧ m * c ≤ 2 ^ 36 := by
  refine ⟨Int.mul_nonneg h0 h2, ?_⟩
  have := Int.mul_le_mul h1 h3 h2 (by omega)
  omega
theorem pendL_rng (lb : Int) (l : List Ask) (h : ∀ a ∈ l, Rng a) (hl : l.length ≤ 2 ^ 20) : 0 ≤ (pendL lb l).1 ∧ (pendL lb l).1 ≤ l.length * 2 ^ 36 ∧ 0 ≤ (pendL lb l).2 ∧ (pendL lb l).2 ≤ l.length * 2 ^ 36 := by
  unfold pendL
  have key : ∀ (l : List Ask) (v : Int × Int) (n : Int), (∀ a ∈ l, Rng a) → 0 ≤ v.1 → v.1 ≤ n * 2 ^ 36 → 0 ≤ v.2 → v.2 ≤ n * 2 ^ 36 →
      0 ≤ (l.foldl (pendF lb) v).1 ∧ (l.foldl (pendF lb) v).1 ≤ (n + l.length) * 2 ^ 36 ∧ 0 ≤ (l.foldl (pendF lb) v).2 ∧ (l.foldl (pendF lb) v).2 ≤ (n + l.length) * 2 ^ 36 := by
    intro l
    induction l with
    | nil => intro v n h a b c d; simpa using ⟨a, b, c, d⟩
    | cons x l ih =>
      intro v n h a b c d
      have hx := h x List.mem_cons_self
      have e1 := mul_rng hx.m0 hx.m1 hx.n0 hx.n1
      have e2 := mul_rng hx.c0 hx.c1 hx.n0 hx.n1
      have := ih (pendF lb v x) (n + 1) (fun a ha => h a (List.mem_cons_of_mem _ ha)) (by unfold pendF; split <;> (try simp only) <;> omega) (by unfold pendF; split <;> (try simp only) <;> omega) (by unfold pendF; split <;> (try simp only) <;> omega) (by unfold pendF; split <;> (try simp only) <;> omega)
      simp only [List.foldl_cons, List.length_cons]
      have e : n + ((l.length + 1 : Nat) : Int) = n + 1 + (l.length : Int) := by omega
      rw [e]
      exact this
  have := key l (0, 0) 0 h (by simp) (by simp) (by simp) (by simp)
  simpa using this
set_option maxHeartbeats 4000000 in
theorem pend_ok (t : Bool) (lb : Int) (l : List Ask) (hl : l.length ≤ 2 ^ 20) (hm : ∀ a ∈ l, Rng a) : PCall Try.prog 13 [.sl t 8 (l.map ASK), .int .i64 lb] (VEC (pendL lb l)) := by
  unfold PCall
  refine acallR_of isR13 (by simp) ?_
  unfold cc13
  simp -implicitDefEqProofs (maxSteps := 500000) (disch := first | decide | omega) only [↓preS, ↓reduceIte, allS, Nat.reduceBEq, Nat.reduceAdd, Nat.reduceEqDiff, reduceIte, Int.reduceToNat, Int.reduceLE, Int.reduceLT, Nat.reduceLeDiff, Nat.reduceMul, Nat.reducePow, Nat.reduceLT, Int.reduceBEq, Int.reduceBNe, Int.reduceAdd, Int.reduceSub, Int.reduceMul, Int.reduceGT, Int.reduceGE, decS, Int.reduceNe, Int.reduceEq]
  unfold cc13L0
  simp -implicitDefEqProofs (maxSteps := 500000) (disch := first | decide | omega) only [↓preS, ↓reduceIte, allS, Nat.reduceBEq, Nat.reduceAdd, Nat.reduceEqDiff, reduceIte, Int.reduceToNat, Int.reduceLE, Int.reduceLT, Nat.reduceLeDiff, Nat.reduceMul, Nat.reducePow, Nat.reduceLT, Int.reduceBEq, Int.reduceBNe, Int.reduceAdd, Int.reduceSub, Int.reduceMul, Int.reduceGT, Int.reduceGE, decS, Int.reduceNe, Int.reduceEq]
  refine aw_loopS (σ := Nat) (fun i => ⟨[(1, .int .i64 lb), (4, .ref 0 0 0), (5, .ref 1 0 0), (8, .sl t 8 (l.map ASK)), (9, .int .i64 (l.length : Int)), (10, .int .i64 (i : Int))], [.box [.int .i64 0, .int .i64 0], .box [.int .i64 (pendL lb (l.take i)).1, .int .i64 (pendL lb (l.take i)).2]]⟩)
    (fun i => i ≤ l.length) (fun i => l.length - i) 0 (.inl rfl) (by omega) ?_
  intro i hii
  unfold cc13l0
  have pr := pendL_rng lb (l.take i) (fun a ha => hm a (List.mem_of_mem_take ha)) (by simp; omega)
  have hlt : (l.take i).length = i := by simp; omega
  rw [hlt] at pr
  by_cases hil : i < l.length
  · have hg : l.getD i default = l[i] := by simp [hil]
    have hr := hm _ (List.getElem_mem hil)
    have e1 : pendL lb (l.take (i + 1)) = pendF lb (pendL lb (l.take i)) l[i] := by
      unfold pendL
      rw [List.take_succ_eq_append_getElem hil, List.foldl_append]
      rfl
    by_cases hlb : lb = l[i].label
    · simp -implicitDefEqProofs (maxSteps := 500000) (disch := first | decide | omega) only [↓preS, ↓reduceIte, allS, Nat.reduceBEq, Nat.reduceAdd, Nat.reduceEqDiff, reduceIte, Int.reduceToNat, Int.reduceLE, Int.reduceLT, Nat.reduceLeDiff, Nat.reduceMul, Nat.reducePow, Nat.reduceLT, Int.reduceBEq, Int.reduceBNe, Int.reduceAdd, Int.reduceSub, Int.reduceMul, Int.reduceGT, Int.reduceGE, decS, Int.reduceNe, Int.reduceEq, askS, askT, hg, List.append_nil]
      refine ⟨by omega, by omega, ?_⟩
      have r0 := mul_rng hr.m0 hr.m1 hr.n0 hr.n1
      have r1 := mul_rng hr.c0 hr.c1 hr.n0 hr.n1
      obtain ⟨q0, q1, q2, q3, q4, q5⟩ := hr
      have b1 : (!([l[i].mem, l[i].cores] : List Int).any (outP 0 1125899906842624)) = true := by simp [outP]; omega
      have b2 : (!([l[i].count] : List Int).any (outP 0 50)) = true := by simp [outP]; omega
      refine acK_of (FCall.of (lent := true) (all_ok true 0 1125899906842624 [l[i].mem, l[i].cores] (by simp)) ?_ rfl (fun _ => rfl)) ?_
      · exact .cons (Vw.refl rfl) (.cons (Vw.refl rfl) (.cons (Vw.ownMapN (f := I64) (l := [l[i].mem, l[i].cores]) rfl rfl) .nil))
      rw [b1]
      simp -implicitDefEqProofs (maxSteps := 500000) (disch := first | decide | omega) only [↓preS, ↓reduceIte, allS, Nat.reduceBEq, Nat.reduceAdd, Nat.reduceEqDiff, reduceIte, Int.reduceToNat, Int.reduceLE, Int.reduceLT, Nat.reduceLeDiff, Nat.reduceMul, Nat.reducePow, Nat.reduceLT, Int.reduceBEq, Int.reduceBNe, Int.reduceAdd, Int.reduceSub, Int.reduceMul, Int.reduceGT, Int.reduceGE, decS, Int.reduceNe, Int.reduceEq, askS, askT, List.append_nil]
      refine acK_of (FCall.of (lent := true) (all_ok true 0 50 [l[i].count] (by simp)) ?_ rfl (fun _ => rfl)) ?_
      · exact .cons (Vw.refl rfl) (.cons (Vw.refl rfl) (.cons (Vw.ownMapN (f := I64) (l := [l[i].count]) rfl rfl) .nil))
      rw [b2]
      simp -implicitDefEqProofs (maxSteps := 500000) (disch := first | decide | omega) only [↓preS, ↓reduceIte, allS, Nat.reduceBEq, Nat.reduceAdd, Nat.reduceEqDiff, reduceIte, Int.reduceToNat, Int.reduceLE, Int.reduceLT, Nat.reduceLeDiff, Nat.reduceMul, Nat.reducePow, Nat.reduceLT, Int.reduceBEq, Int.reduceBNe, Int.reduceAdd, Int.reduceSub, Int.reduceMul, Int.reduceGT, Int.reduceGE, decS, Int.reduceNe, Int.reduceEq, askS, askT, List.append_nil]
      refine ⟨i + 1, ?_, by omega, by omega⟩
      have e2 : pendL lb (l.take (i + 1)) = ((pendL lb (l.take i)).1 + l[i].mem * l[i].count, (pendL lb (l.take i)).2 + l[i].cores * l[i].count) := by
        rw [e1]
        unfold pendF
        rw [if_pos hlb]
      rw [e2]
      (refine Sub.ofL [some 0, some 1] rfl (by simp) (by decide) (by simp [partL, AO.ro, AV.ro, AV.roL, names, AO.empty, SB, U8, SI, I64, STR]) (by simp [AO.bo, AV.bo, AV.boL, names]) ?_ <;> (try simp only [List.map_cons, List.map_nil, regsL, AV.ro, AV.roL, AV.bo, AV.boL, names, get_here, get_there, Nat.reduceBEq, List.getD_cons_zero, List.getD_cons_succ, List.getD_nil, and_true, true_and, Nat.reduceLT, List.length_cons, List.length_nil, Nat.reduceAdd, decide_true, Option.isSome_some, Bool.true_or, Bool.and_self, Option.isSome_none, Bool.false_or, beq_self_eq_true, wk0_self, wk0_nils]) <;> (try and_intros) <;> (first | done | rfl | exact .inl rfl | exact .inr ⟨rfl, _, _, rfl⟩ | (simp; done) | (simp; omega) | (refine .inl ?_; simp; done) | (refine .inl ?_; simp; omega)))
    · simp -implicitDefEqProofs (maxSteps := 500000) (disch := first | decide | omega) only [↓preS, ↓reduceIte, allS, Nat.reduceBEq, Nat.reduceAdd, Nat.reduceEqDiff, reduceIte, Int.reduceToNat, Int.reduceLE, Int.reduceLT, Nat.reduceLeDiff, Nat.reduceMul, Nat.reducePow, Nat.reduceLT, Int.reduceBEq, Int.reduceBNe, Int.reduceAdd, Int.reduceSub, Int.reduceMul, Int.reduceGT, Int.reduceGE, decS, Int.reduceNe, Int.reduceEq, askS, askT, hg, List.append_nil]
      refine ⟨by omega, by omega, i + 1, ?_, by omega, by omega⟩
      have e2 : pendL lb (l.take (i + 1)) = pendL lb (l.take i) := by
        rw [e1]
        unfold pendF
        rw [if_neg hlb]
      rw [e2]
      (refine Sub.ofL [some 0, some 1] rfl (by simp) (by decide) (by simp [partL, AO.ro, AV.ro, AV.roL, names, AO.empty, SB, U8, SI, I64, STR]) (by simp [AO.bo, AV.bo, AV.boL, names]) ?_ <;> (try simp only [List.map_cons, List.map_nil, regsL, AV.ro, AV.roL, AV.bo, AV.boL, names, get_here, get_there, Nat.reduceBEq, List.getD_cons_zero, List.getD_cons_succ, List.getD_nil, and_true, true_and, Nat.reduceLT, List.length_cons, List.length_nil, Nat.reduceAdd, decide_true, Option.isSome_some, Bool.true_or, Bool.and_self, Option.isSome_none, Bool.false_or, beq_self_eq_true, wk0_self, wk0_nils]) <;> (try and_intros) <;> (first | done | rfl | exact .inl rfl | exact .inr ⟨rfl, _, _, rfl⟩ | (simp; done) | (simp; omega) | (refine .inl ?_; simp; done) | (refine .inl ?_; simp; omega)))
  · have : i = l.length := by omega
    subst this
    simp -implicitDefEqProofs (maxSteps := 500000) (disch := first | decide | omega) only [↓preS, ↓reduceIte, allS, Nat.reduceBEq, Nat.reduceAdd, Nat.reduceEqDiff, reduceIte, Int.reduceToNat, Int.reduceLE, Int.reduceLT, Nat.reduceLeDiff, Nat.reduceMul, Nat.reducePow, Nat.reduceLT, Int.reduceBEq, Int.reduceBNe, Int.reduceAdd, Int.reduceSub, Int.reduceMul, Int.reduceGT, Int.reduceGE, decS, Int.reduceNe, Int.reduceEq]
    rfl
end Go.Proofs.Ytglimfdofgadjaa
