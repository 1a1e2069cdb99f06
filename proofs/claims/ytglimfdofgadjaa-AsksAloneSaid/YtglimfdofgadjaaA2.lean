/- What functions of the program compute. No condition. -/
import Derived.Test.YtglimfdofgadjaaA1
set_option linter.unusedSimpArgs false
set_option linter.unusedVariables false
namespace Go.Proofs.Ytglimfdofgadjaa
open Go Go.Ab

theorem at_ok (t : Bool) (p : Int) (l : List Ask) (hl : l.length < 2 ^ 63) : PCall Try.prog 25 [.sl t 8 (l.map ASK), .int .i64 p] (.int .i64 (idxI (prioP p) l)) := by
  refine acall_of is25 (by simp) ?_
  unfold cc25
  simp -implicitDefEqProofs (maxSteps := 500000) (disch := first | decide | omega) only [↓preS, ↓reduceIte, allS, Nat.reduceBEq, Nat.reduceAdd, Nat.reduceEqDiff, reduceIte, Int.reduceToNat, Int.reduceLE, Int.reduceLT, Nat.reduceLeDiff, Nat.reduceMul, Nat.reducePow, Nat.reduceLT, Int.reduceBEq, Int.reduceBNe, Int.reduceAdd, Int.reduceSub, Int.reduceMul, Int.reduceGT, Int.reduceGE, decS, Int.reduceNe, Int.reduceEq]
  refine (idx29 t p l hl).to ?_
  rintro y G ⟨rfl, rfl⟩
  simp -implicitDefEqProofs (maxSteps := 500000) (disch := first | decide | omega) only [↓preS, ↓reduceIte, allS, Nat.reduceBEq, Nat.reduceAdd, Nat.reduceEqDiff, reduceIte, Int.reduceToNat, Int.reduceLE, Int.reduceLT, Nat.reduceLeDiff, Nat.reduceMul, Nat.reducePow, Nat.reduceLT, Int.reduceBEq, Int.reduceBNe, Int.reduceAdd, Int.reduceSub, Int.reduceMul, Int.reduceGT, Int.reduceGE, decS, Int.reduceNe, Int.reduceEq]

theorem idx_cases {α : Type} (p : α → Bool) (l : List α) : (idxI p l = -1 ∧ ∀ x ∈ l, p x = false) ∨ ∃ i : Nat, ∃ h : i < l.length, idxI p l = (i : Int) ∧ p l[i] = true ∧ ∀ j, (hj : j < i) → p (l[j]'(by omega)) = false := by
  unfold idxI
  cases h : l.any p
  · rw [List.any_eq_false] at h
    exact .inl ⟨rfl, fun x hx => by simpa using h x hx⟩
  · have hi : l.findIdx p < l.length := by
      rw [List.findIdx_lt_length]
      obtain ⟨x, hx, hp⟩ := List.any_eq_true.1 h
      exact ⟨x, hx, hp⟩
    refine .inr ⟨l.findIdx p, hi, rfl, List.findIdx_getElem (w := hi), fun j hj => ?_⟩
    have := List.not_of_lt_findIdx hj
    simpa using this

def missL (p : Int) (l : List Ask) : List Ask :=
  let i := idxI (prioP p) l
  if 0 ≤ i then l.set i.toNat { l.getD i.toNat default with missed := min ((l.getD i.toNat default).missed + 1) 100 } else l

set_option maxHeartbeats 1000000 in
theorem miss_ok (t : Bool) (p : Int) (l : List Ask) (hl : l.length ≤ 2 ^ 40) (hm : ∀ a ∈ l, -2 ^ 62 < a.missed ∧ a.missed < 2 ^ 62) : PCall Try.prog 12 [.sl t 8 (l.map ASK), .int .i64 p] (.sl false 8 ((missL p l).map ASK)) := by
  refine acall_of is12 (by simp) ?_
  unfold cc12 missL
  simp -implicitDefEqProofs (maxSteps := 500000) (disch := first | decide | omega) only [↓preS, ↓reduceIte, allS, Nat.reduceBEq, Nat.reduceAdd, Nat.reduceEqDiff, reduceIte, Int.reduceToNat, Int.reduceLE, Int.reduceLT, Nat.reduceLeDiff, Nat.reduceMul, Nat.reducePow, Nat.reduceLT, Int.reduceBEq, Int.reduceBNe, Int.reduceAdd, Int.reduceSub, Int.reduceMul, Int.reduceGT, Int.reduceGE, decS, Int.reduceNe, Int.reduceEq]
  refine acK_new (own_ok t l hl) rfl rfl ?_
  rintro y G ⟨rfl, rfl⟩
  simp -implicitDefEqProofs (maxSteps := 500000) (disch := first | decide | omega) only [↓preS, ↓reduceIte, allS, Nat.reduceBEq, Nat.reduceAdd, Nat.reduceEqDiff, reduceIte, Int.reduceToNat, Int.reduceLE, Int.reduceLT, Nat.reduceLeDiff, Nat.reduceMul, Nat.reducePow, Nat.reduceLT, Int.reduceBEq, Int.reduceBNe, Int.reduceAdd, Int.reduceSub, Int.reduceMul, Int.reduceGT, Int.reduceGE, decS, Int.reduceNe, Int.reduceEq, AV.ren, AO.ren, up]
  refine acK_of (FCall.of (lent := true) (at_ok true p l (by omega)) ?_ rfl (fun _ => rfl)) ?_
  · exact .cons (Vw.ownMap rfl) (.cons (Vw.refl rfl) .nil)
  simp -implicitDefEqProofs (maxSteps := 500000) (disch := first | decide | omega) only [↓preS, ↓reduceIte, allS, Nat.reduceBEq, Nat.reduceAdd, Nat.reduceEqDiff, reduceIte, Int.reduceToNat, Int.reduceLE, Int.reduceLT, Nat.reduceLeDiff, Nat.reduceMul, Nat.reducePow, Nat.reduceLT, Int.reduceBEq, Int.reduceBNe, Int.reduceAdd, Int.reduceSub, Int.reduceMul, Int.reduceGT, Int.reduceGE, decS, Int.reduceNe, Int.reduceEq]
  rcases idx_cases (prioP p) l with ⟨h1, h2⟩ | ⟨i, hi, h1, h2, h3⟩
  · rw [h1]
    simp -implicitDefEqProofs (maxSteps := 500000) (disch := first | decide | omega) only [↓preS, ↓reduceIte, allS, Nat.reduceBEq, Nat.reduceAdd, Nat.reduceEqDiff, reduceIte, Int.reduceToNat, Int.reduceLE, Int.reduceLT, Nat.reduceLeDiff, Nat.reduceMul, Nat.reducePow, Nat.reduceLT, Int.reduceBEq, Int.reduceBNe, Int.reduceAdd, Int.reduceSub, Int.reduceMul, Int.reduceGT, Int.reduceGE, decS, Int.reduceNe, Int.reduceEq]
  · rw [h1]
    have hg : l.getD i default = l[i] := by simp [hi]
    have hmi := hm _ (List.getElem_mem hi)
    rw [← hg] at hmi
    simp -implicitDefEqProofs (maxSteps := 500000) (disch := first | decide | omega) only [↓preS, ↓reduceIte, allS, Nat.reduceBEq, Nat.reduceAdd, Nat.reduceEqDiff, reduceIte, Int.reduceToNat, Int.reduceLE, Int.reduceLT, Nat.reduceLeDiff, Nat.reduceMul, Nat.reducePow, Nat.reduceLT, Int.reduceBEq, Int.reduceBNe, Int.reduceAdd, Int.reduceSub, Int.reduceMul, Int.reduceGT, Int.reduceGE, decS, Int.reduceNe, Int.reduceEq, askS, mm2, List.length_set]
    rw [List.take_of_length_le (by simp), if_pos (by omega)]
    exact ⟨by omega, by omega, hi, by omega, by omega, hi, rfl⟩

set_option maxHeartbeats 1000000 in
/-- slices.Delete. -/
theorem del_ok (l : List Ask) (i j : Nat) (hij : i ≤ j) (hj : j ≤ l.length) (hl : l.length ≤ 2 ^ 40) : ACall Try.prog 27 [.own 0 8 0 l.length, .int .i64 i, .int .i64 j] [.arr 8 (l.map ASK)] fun y G => y = .own 0 8 0 (i + (l.length - j)) ∧ ∃ zs : List Ask, G = [.arr 8 ((l.take i ++ l.drop j ++ zs).map ASK)] := by
  refine acall_at is27 (by simp) rfl ?_
  unfold cc27
  by_cases he : i = j
  · subst he
    simp -implicitDefEqProofs (maxSteps := 500000) (disch := first | decide | omega) only [↓preS, ↓reduceIte, allS, Nat.reduceBEq, Nat.reduceAdd, Nat.reduceEqDiff, reduceIte, Int.reduceToNat, Int.reduceLE, Int.reduceLT, Nat.reduceLeDiff, Nat.reduceMul, Nat.reducePow, Nat.reduceLT, Int.reduceBEq, Int.reduceBNe, Int.reduceAdd, Int.reduceSub, Int.reduceMul, Int.reduceGT, Int.reduceGE, decS, Int.reduceNe, Int.reduceEq, bndK_int]
    refine ⟨by omega, by omega, hj, by omega, by congr 1; omega, [], ?_⟩
    rw [List.append_nil, List.take_append_drop]
  · have hne : ¬ ((i : Int) = (j : Int)) := by omega
    have hjc : j + (l.length - j) ≤ l.length := by omega
    have htk : (l.drop j).take (l.length - j) = l.drop j := List.take_of_length_le (by simp)
    simp -implicitDefEqProofs (maxSteps := 500000) (disch := first | decide | omega) only [↓preS, ↓reduceIte, allS, Nat.reduceBEq, Nat.reduceAdd, Nat.reduceEqDiff, reduceIte, Int.reduceToNat, Int.reduceLE, Int.reduceLT, Nat.reduceLeDiff, Nat.reduceMul, Nat.reducePow, Nat.reduceLT, Int.reduceBEq, Int.reduceBNe, Int.reduceAdd, Int.reduceSub, Int.reduceMul, Int.reduceGT, Int.reduceGE, decS, Int.reduceNe, Int.reduceEq, bndK_int, Nat.sub_zero, hjc, htk]
    refine ⟨by omega, by omega, hj, by omega, hij, by omega, by omega, by omega, by omega, hj, by omega, by omega, by omega, by omega, by omega, by omega, List.replicate (j - i) default, ?_⟩
    have e1 : (l.take i ++ l.drop j).length = i + (l.length - j) := by simp; omega
    have e2 : (l.take i ++ l.drop j ++ l.drop (i + (l.length - j))).take (i + (l.length - j)) = l.take i ++ l.drop j := by
      rw [← e1, List.take_left']
      rfl
    have e3 : (l.take i ++ l.drop j ++ l.drop (i + (l.length - j))).drop (i + (l.length - j) + (l.length - (i + (l.length - j)))) = [] := List.drop_eq_nil_of_le (by simp; omega)
    have e4 : l.length - (i + (l.length - j)) = j - i := by omega
    rw [e2, e3, e4, List.map_nil, List.append_nil, List.map_append, List.map_append, List.map_append, List.map_replicate]
    rfl

theorem set23 (x a : Ask) (l : List AV) : ACall Try.prog 23 [ASK x, .ref 0 0 0] [.box (askC a), .arr 8 l] fun y G => y = .bool (prioP a.prio x) ∧ G = [.box (askC a), .arr 8 l] := by
  have key : ACall Try.prog 23 [ASK x, .ref 0 0 0] [.box (askC a), .arr 8 l] fun y G => y = .bool (prioP a.prio x) ∧ ∃ q, G = [.box (askC a), .arr 8 l, q] := by
    refine acall_at is23 (by simp) rfl ?_
    unfold cc23
    simp -implicitDefEqProofs (maxSteps := 500000) (disch := first | decide | omega) only [↓preS, ↓reduceIte, allS, Nat.reduceBEq, Nat.reduceAdd, Nat.reduceEqDiff, reduceIte, Int.reduceToNat, Int.reduceLE, Int.reduceLT, Nat.reduceLeDiff, Nat.reduceMul, Nat.reducePow, Nat.reduceLT, Int.reduceBEq, Int.reduceBNe, Int.reduceAdd, Int.reduceSub, Int.reduceMul, Int.reduceGT, Int.reduceGE, decS, Int.reduceNe, Int.reduceEq, askS]
    exact ⟨rfl, _, rfl⟩
  refine key.sub ?_
  rintro y G ⟨rfl, q, rfl⟩
  refine ⟨_, _, ?_, rfl, rfl⟩
  (refine Sub.ofL [some 0, some 1] rfl (by simp) (by decide) (by simp [partL, AO.ro, AV.ro, AV.roL, names, AO.empty, SB, U8, SI, I64, STR]) (by simp [AO.bo, AV.bo, AV.boL, names]) ?_ <;> (try simp only [List.map_cons, List.map_nil, regsL, AV.ro, AV.roL, AV.bo, AV.boL, names, get_here, get_there, Nat.reduceBEq, List.getD_cons_zero, List.getD_cons_succ, List.getD_nil, and_true, true_and, Nat.reduceLT, List.length_cons, List.length_nil, Nat.reduceAdd, decide_true, Option.isSome_some, Bool.true_or, Bool.and_self, Option.isSome_none, Bool.false_or, beq_self_eq_true, wk0_self, wk0_nils]) <;> (try and_intros) <;> (first | done | rfl | exact .inl rfl | exact .inr ⟨rfl, _, _, rfl⟩ | (simp; done) | (simp; omega) | (refine .inl ?_; simp; done) | (refine .inl ?_; simp; omega)))

theorem set23b (x a b : Ask) (l : List AV) : ACall Try.prog 23 [ASK x, .ref 0 0 0] [.box (askC a), .arr 8 l, .box (askC b)] fun y G => y = .bool (prioP a.prio x) ∧ G = [.box (askC a), .arr 8 l, .box (askC b)] := by
  have key : ACall Try.prog 23 [ASK x, .ref 0 0 0] [.box (askC a), .arr 8 l, .box (askC b)] fun y G => y = .bool (prioP a.prio x) ∧ ∃ q, G = [.box (askC a), .arr 8 l, .box (askC b), q] := by
    refine acall_at is23 (by simp) rfl ?_
    unfold cc23
    simp -implicitDefEqProofs (maxSteps := 500000) (disch := first | decide | omega) only [↓preS, ↓reduceIte, allS, Nat.reduceBEq, Nat.reduceAdd, Nat.reduceEqDiff, reduceIte, Int.reduceToNat, Int.reduceLE, Int.reduceLT, Nat.reduceLeDiff, Nat.reduceMul, Nat.reducePow, Nat.reduceLT, Int.reduceBEq, Int.reduceBNe, Int.reduceAdd, Int.reduceSub, Int.reduceMul, Int.reduceGT, Int.reduceGE, decS, Int.reduceNe, Int.reduceEq, askS]
    exact ⟨rfl, _, rfl⟩
  refine key.sub ?_
  rintro y G ⟨rfl, q, rfl⟩
  refine ⟨_, _, ?_, rfl, rfl⟩
  (refine Sub.ofL [some 0, some 1, some 2] rfl (by simp) (by decide) (by simp [partL, AO.ro, AV.ro, AV.roL, names, AO.empty, SB, U8, SI, I64, STR]) (by simp [AO.bo, AV.bo, AV.boL, names]) ?_ <;> (try simp only [List.map_cons, List.map_nil, regsL, AV.ro, AV.roL, AV.bo, AV.boL, names, get_here, get_there, Nat.reduceBEq, List.getD_cons_zero, List.getD_cons_succ, List.getD_nil, and_true, true_and, Nat.reduceLT, List.length_cons, List.length_nil, Nat.reduceAdd, decide_true, Option.isSome_some, Bool.true_or, Bool.and_self, Option.isSome_none, Bool.false_or, beq_self_eq_true, wk0_self, wk0_nils]) <;> (try and_intros) <;> (first | done | rfl | exact .inl rfl | exact .inr ⟨rfl, _, _, rfl⟩ | (simp; done) | (simp; omega) | (refine .inl ?_; simp; done) | (refine .inl ?_; simp; omega)))

def FN23 : AV := .fn (.func 23) [] [.ref 0 0 0]
set_option maxHeartbeats 1000000 in
theorem idx29s (a : Ask) (l : List Ask) (hl : l.length < 2 ^ 63) : ACall Try.prog 29 [.own 1 8 0 l.length, FN23] [.box (askC a), .arr 8 (l.map ASK)] fun y G => y = .int .i64 (idxI (prioP a.prio) l) ∧ G = [.box (askC a), .arr 8 (l.map ASK)] := by
  refine acall_at is29 (by simp) rfl ?_
  unfold cc29 FN23
  simp -implicitDefEqProofs (maxSteps := 500000) (disch := first | decide | omega) only [↓preS, ↓reduceIte, allS, Nat.reduceBEq, Nat.reduceAdd, Nat.reduceEqDiff, reduceIte, Int.reduceToNat, Int.reduceLE, Int.reduceLT, Nat.reduceLeDiff, Nat.reduceMul, Nat.reducePow, Nat.reduceLT, Int.reduceBEq, Int.reduceBNe, Int.reduceAdd, Int.reduceSub, Int.reduceMul, Int.reduceGT, Int.reduceGE, decS, Int.reduceNe, Int.reduceEq]
  unfold cc29L0
  simp -implicitDefEqProofs (maxSteps := 500000) (disch := first | decide | omega) only [↓preS, ↓reduceIte, allS, Nat.reduceBEq, Nat.reduceAdd, Nat.reduceEqDiff, reduceIte, Int.reduceToNat, Int.reduceLE, Int.reduceLT, Nat.reduceLeDiff, Nat.reduceMul, Nat.reducePow, Nat.reduceLT, Int.reduceBEq, Int.reduceBNe, Int.reduceAdd, Int.reduceSub, Int.reduceMul, Int.reduceGT, Int.reduceGE, decS, Int.reduceNe, Int.reduceEq]
  refine aw_loopS (σ := Nat) (fun i => ⟨[(0, .own 1 8 0 l.length), (1, .fn (.func 23) [] [.ref 0 0 0]), (7, .int .i64 (l.length : Int)), (8, .int .i64 (i : Int))], [.box (askC a), .arr 8 (l.map ASK)]⟩)
    (fun i => i ≤ l.length ∧ ∀ j, (h : j < i) → (h2 : j < l.length) → prioP a.prio l[j] = false) (fun i => l.length - i) 0 (.inl rfl) ⟨by omega, fun j h => by omega⟩ ?_
  rintro i ⟨hii, hn⟩
  unfold cc29l0
  by_cases hil : i < l.length
  · have hg : l.getD i default = l[i] := by simp [hil]
    simp -implicitDefEqProofs (maxSteps := 500000) (disch := first | decide | omega) only [↓preS, ↓reduceIte, allS, Nat.reduceBEq, Nat.reduceAdd, Nat.reduceEqDiff, reduceIte, Int.reduceToNat, Int.reduceLE, Int.reduceLT, Nat.reduceLeDiff, Nat.reduceMul, Nat.reducePow, Nat.reduceLT, Int.reduceBEq, Int.reduceBNe, Int.reduceAdd, Int.reduceSub, Int.reduceMul, Int.reduceGT, Int.reduceGE, decS, Int.reduceNe, Int.reduceEq, askS]
    refine ⟨by omega, by omega, hil, ?_⟩
    refine (set23 _ a _).to ?_
    rintro y G ⟨rfl, rfl⟩
    rw [hg]
    cases hp : prioP a.prio l[i]
    · simp -implicitDefEqProofs (maxSteps := 500000) (disch := first | decide | omega) only [↓preS, ↓reduceIte, allS, Nat.reduceBEq, Nat.reduceAdd, Nat.reduceEqDiff, reduceIte, Int.reduceToNat, Int.reduceLE, Int.reduceLT, Nat.reduceLeDiff, Nat.reduceMul, Nat.reducePow, Nat.reduceLT, Int.reduceBEq, Int.reduceBNe, Int.reduceAdd, Int.reduceSub, Int.reduceMul, Int.reduceGT, Int.reduceGE, decS, Int.reduceNe, Int.reduceEq]
      refine ⟨i + 1, .inl rfl, ⟨by omega, fun j h h2 => ?_⟩, by omega⟩
      by_cases hj : j = i
      · subst hj; exact hp
      · exact hn j (by omega) h2
    · simp -implicitDefEqProofs (maxSteps := 500000) (disch := first | decide | omega) only [↓preS, ↓reduceIte, allS, Nat.reduceBEq, Nat.reduceAdd, Nat.reduceEqDiff, reduceIte, Int.reduceToNat, Int.reduceLE, Int.reduceLT, Nat.reduceLeDiff, Nat.reduceMul, Nat.reducePow, Nat.reduceLT, Int.reduceBEq, Int.reduceBNe, Int.reduceAdd, Int.reduceSub, Int.reduceMul, Int.reduceGT, Int.reduceGE, decS, Int.reduceNe, Int.reduceEq]
      rw [idx_at hil (fun j hj => hn j hj (by omega)) hp]
  · have : i = l.length := by omega
    subst this
    simp -implicitDefEqProofs (maxSteps := 500000) (disch := first | decide | omega) only [↓preS, ↓reduceIte, allS, Nat.reduceBEq, Nat.reduceAdd, Nat.reduceEqDiff, reduceIte, Int.reduceToNat, Int.reduceLE, Int.reduceLT, Nat.reduceLeDiff, Nat.reduceMul, Nat.reducePow, Nat.reduceLT, Int.reduceBEq, Int.reduceBNe, Int.reduceAdd, Int.reduceSub, Int.reduceMul, Int.reduceGT, Int.reduceGE, decS, Int.reduceNe, Int.reduceEq]
    rw [idx_no fun j hj => hn j hj hj]

def keepL (p : Int) (l : List Ask) : List Ask := l.filter fun x => !prioP p x
set_option maxHeartbeats 2000000 in
/-- slices.DeleteFunc, of those of a Prio. -/
theorem delf_ok (a : Ask) (l : List Ask) (hl : l.length ≤ 2 ^ 40) : ACall Try.prog 21 [.own 1 8 0 l.length, FN23] [.box (askC a), .arr 8 (l.map ASK)] fun y G => y = .own 1 8 0 (keepL a.prio l).length ∧ ∃ zs : List Ask, (keepL a.prio l).length + zs.length = l.length ∧ ∃ G', G = .box (askC a) :: .arr 8 ((keepL a.prio l ++ zs).map ASK) :: G' := by
  refine acall_at is21 (by simp) rfl ?_
  unfold cc21 FN23
  simp -implicitDefEqProofs (maxSteps := 500000) (disch := first | decide | omega) only [↓preS, ↓reduceIte, allS, Nat.reduceBEq, Nat.reduceAdd, Nat.reduceEqDiff, reduceIte, Int.reduceToNat, Int.reduceLE, Int.reduceLT, Nat.reduceLeDiff, Nat.reduceMul, Nat.reducePow, Nat.reduceLT, Int.reduceBEq, Int.reduceBNe, Int.reduceAdd, Int.reduceSub, Int.reduceMul, Int.reduceGT, Int.reduceGE, decS, Int.reduceNe, Int.reduceEq]
  refine (idx29s a l (by omega)).to ?_
  rintro y G ⟨rfl, rfl⟩
  rcases idx_cases (prioP a.prio) l with ⟨h1, h2⟩ | ⟨i, hi, h1, h2, h3⟩
  · rw [h1]
    simp -implicitDefEqProofs (maxSteps := 500000) (disch := first | decide | omega) only [↓preS, ↓reduceIte, allS, Nat.reduceBEq, Nat.reduceAdd, Nat.reduceEqDiff, reduceIte, Int.reduceToNat, Int.reduceLE, Int.reduceLT, Nat.reduceLeDiff, Nat.reduceMul, Nat.reducePow, Nat.reduceLT, Int.reduceBEq, Int.reduceBNe, Int.reduceAdd, Int.reduceSub, Int.reduceMul, Int.reduceGT, Int.reduceGE, decS, Int.reduceNe, Int.reduceEq]
    have e : keepL a.prio l = l := List.filter_eq_self.2 fun x hx => by simp [h2 x hx]
    rw [e]
    exact ⟨rfl, [], rfl, [], by rw [List.append_nil]⟩
  · rw [h1]
    have hi0 : ¬ ((i : Int) = -1) := by omega
    simp -implicitDefEqProofs (maxSteps := 500000) (disch := first | decide | omega) only [↓preS, ↓reduceIte, allS, Nat.reduceBEq, Nat.reduceAdd, Nat.reduceEqDiff, reduceIte, Int.reduceToNat, Int.reduceLE, Int.reduceLT, Nat.reduceLeDiff, Nat.reduceMul, Nat.reducePow, Nat.reduceLT, Int.reduceBEq, Int.reduceBNe, Int.reduceAdd, Int.reduceSub, Int.reduceMul, Int.reduceGT, Int.reduceGE, decS, Int.reduceNe, Int.reduceEq]
    unfold cc21L0
    simp -implicitDefEqProofs (maxSteps := 500000) (disch := first | decide | omega) only [↓preS, ↓reduceIte, allS, Nat.reduceBEq, Nat.reduceAdd, Nat.reduceEqDiff, reduceIte, Int.reduceToNat, Int.reduceLE, Int.reduceLT, Nat.reduceLeDiff, Nat.reduceMul, Nat.reducePow, Nat.reduceLT, Int.reduceBEq, Int.reduceBNe, Int.reduceAdd, Int.reduceSub, Int.reduceMul, Int.reduceGT, Int.reduceGE, decS, Int.reduceNe, Int.reduceEq]
    refine aw_loopS (σ := Nat × List Ask) (fun q => ⟨[(0, .own 1 8 0 l.length), (1, .fn (.func 23) [] [.ref 0 0 0]), (5, .int .i64 ((keepL a.prio (l.take q.1)).length : Int)), (6, .int .i64 (q.1 : Int))], [.box (askC a), .arr 8 ((keepL a.prio (l.take q.1) ++ q.2 ++ l.drop q.1).map ASK)]⟩)
      (fun q => q.1 ≤ l.length ∧ (keepL a.prio (l.take q.1) ++ q.2).length = q.1 ∧ q.2 ≠ []) (fun q => l.length - q.1) (i + 1, [l[i]]) ?_ ?_ ?_
    · have e1 : l.take (i + 1) = l.take i ++ [l[i]] := (List.take_succ_eq_append_getElem hi)
      have e2 : keepL a.prio (l.take i) = l.take i := List.filter_eq_self.2 fun x hx => by
        obtain ⟨j, hj, rfl⟩ := List.getElem_of_mem hx
        rw [List.length_take] at hj
        rw [List.getElem_take, h3 j (by omega)]
        rfl
      have e3 : keepL a.prio (l.take (i + 1)) = l.take i := by
        rw [e1]
        unfold keepL at e2 ⊢
        rw [List.filter_append, e2]
        simp [h2]
      have e4 : l.take i ++ [l[i]] ++ l.drop (i + 1) = l := by rw [← e1, List.take_append_drop]
      simp only [e3, e4]
      refine .inl ?_
      have e5 : (l.take i).length = i := by simp; omega
      rw [e5]
      rfl
    · have e1 : l.take (i + 1) = l.take i ++ [l[i]] := (List.take_succ_eq_append_getElem hi)
      have e2 : keepL a.prio (l.take i) = l.take i := List.filter_eq_self.2 fun x hx => by
        obtain ⟨j, hj, rfl⟩ := List.getElem_of_mem hx
        rw [List.length_take] at hj
        rw [List.getElem_take, h3 j (by omega)]
        rfl
      have e3 : keepL a.prio (l.take (i + 1)) = l.take i := by
        rw [e1]
        unfold keepL at e2 ⊢
        rw [List.filter_append, e2]
        simp [h2]
      refine ⟨by simp only; omega, ?_, by simp⟩
      simp only [e3]
      simp
      omega
    rintro ⟨j, S⟩ ⟨hj, hS, hne⟩
    simp only at hj hS hne
    unfold cc21l0
    have hlen : (keepL a.prio (l.take j) ++ S ++ l.drop j).length = l.length := by rw [List.length_append, hS, List.length_drop]; omega
    by_cases hjl : j < l.length
    · have hgd : (keepL a.prio (l.take j) ++ S ++ l.drop j).getD j default = l[j] := by
        rw [List.getD_eq_getElem?_getD, List.getElem?_append_right (by omega), hS, List.getElem?_drop]
        simp [hjl]
      have e1 : l.take (j + 1) = l.take j ++ [l[j]] := List.take_succ_eq_append_getElem hjl
      simp -implicitDefEqProofs (maxSteps := 500000) (disch := first | decide | omega) only [↓preS, ↓reduceIte, allS, Nat.reduceBEq, Nat.reduceAdd, Nat.reduceEqDiff, reduceIte, Int.reduceToNat, Int.reduceLE, Int.reduceLT, Nat.reduceLeDiff, Nat.reduceMul, Nat.reducePow, Nat.reduceLT, Int.reduceBEq, Int.reduceBNe, Int.reduceAdd, Int.reduceSub, Int.reduceMul, Int.reduceGT, Int.reduceGE, decS, Int.reduceNe, Int.reduceEq, askS, hgd, List.append_nil]
      rw [List.length_append] at hS
      refine ⟨by omega, by omega, by omega, ?_⟩
      refine (set23b _ a _ _).to ?_
      rintro y G ⟨rfl, rfl⟩
      cases hp : prioP a.prio l[j]
      · simp -implicitDefEqProofs (maxSteps := 500000) (disch := first | decide | omega) only [↓preS, ↓reduceIte, allS, Nat.reduceBEq, Nat.reduceAdd, Nat.reduceEqDiff, reduceIte, Int.reduceToNat, Int.reduceLE, Int.reduceLT, Nat.reduceLeDiff, Nat.reduceMul, Nat.reducePow, Nat.reduceLT, Int.reduceBEq, Int.reduceBNe, Int.reduceAdd, Int.reduceSub, Int.reduceMul, Int.reduceGT, Int.reduceGE, decS, Int.reduceNe, Int.reduceEq, askS, List.append_nil]
        refine ⟨by omega, by omega, by omega, ?_⟩
        obtain ⟨s, S, rfl⟩ : ∃ s S', S = s :: S' := by
          cases S with
          | nil => exact absurd rfl hne
          | cons s S => exact ⟨s, S, rfl⟩
        have k1 : keepL a.prio (l.take (j + 1)) = keepL a.prio (l.take j) ++ [l[j]] := by
          rw [e1]
          unfold keepL
          rw [List.filter_append]
          simp [hp]
        have k2 : (keepL a.prio (l.take j) ++ s :: S ++ l.drop j).set (keepL a.prio (l.take j)).length l[j] = keepL a.prio (l.take (j + 1)) ++ (S ++ [l[j]]) ++ l.drop (j + 1) := by
          rw [k1, List.append_assoc, List.set_append_right _ _ (Nat.le_refl _), Nat.sub_self]
          rw [List.drop_eq_getElem_cons hjl]
          simp
        refine ⟨(j + 1, S ++ [l[j]]), ?_, ⟨by simp only; omega, ?_, by simp⟩, by simp only; omega⟩
        · simp only
          rw [k2]
          generalize hq : (keepL a.prio (l.take (j + 1)) ++ (S ++ [l[j]]) ++ l.drop (j + 1)).map ASK = q
          have e9 : ((keepL a.prio (l.take j)).length : Int) + 1 = ((keepL a.prio (l.take (j + 1))).length : Int) := by rw [k1]; simp
          have e8 : (j : Int) + 1 = ((j + 1 : Nat) : Int) := by omega
          rw [e9, e8]
          (refine Sub.ofL [some 0, some 1] rfl (by simp) (by decide) (by simp [partL, AO.ro, AV.ro, AV.roL, names, AO.empty, SB, U8, SI, I64, STR]) (by simp [AO.bo, AV.bo, AV.boL, names]) ?_ <;> (try simp only [List.map_cons, List.map_nil, regsL, AV.ro, AV.roL, AV.bo, AV.boL, names, get_here, get_there, Nat.reduceBEq, List.getD_cons_zero, List.getD_cons_succ, List.getD_nil, and_true, true_and, Nat.reduceLT, List.length_cons, List.length_nil, Nat.reduceAdd, decide_true, Option.isSome_some, Bool.true_or, Bool.and_self, Option.isSome_none, Bool.false_or, beq_self_eq_true, wk0_self, wk0_nils]) <;> (try and_intros) <;> (first | done | rfl | exact .inl rfl | exact .inr ⟨rfl, _, _, rfl⟩ | (simp; done) | (simp; omega) | (refine .inl ?_; simp; done) | (refine .inl ?_; simp; omega)))
        · simp only
          rw [k1]
          simp only [List.length_append, List.length_cons, List.length_nil] at hS ⊢
          omega
      · simp -implicitDefEqProofs (maxSteps := 500000) (disch := first | decide | omega) only [↓preS, ↓reduceIte, allS, Nat.reduceBEq, Nat.reduceAdd, Nat.reduceEqDiff, reduceIte, Int.reduceToNat, Int.reduceLE, Int.reduceLT, Nat.reduceLeDiff, Nat.reduceMul, Nat.reducePow, Nat.reduceLT, Int.reduceBEq, Int.reduceBNe, Int.reduceAdd, Int.reduceSub, Int.reduceMul, Int.reduceGT, Int.reduceGE, decS, Int.reduceNe, Int.reduceEq]
        have k1 : keepL a.prio (l.take (j + 1)) = keepL a.prio (l.take j) := by
          rw [e1]
          unfold keepL
          rw [List.filter_append]
          simp [hp]
        have k2 : keepL a.prio (l.take j) ++ S ++ l.drop j = keepL a.prio (l.take (j + 1)) ++ (S ++ [l[j]]) ++ l.drop (j + 1) := by
          rw [k1, List.drop_eq_getElem_cons hjl]
          simp
        refine ⟨(j + 1, S ++ [l[j]]), ?_, ⟨by simp only; omega, ?_, by simp⟩, by simp only; omega⟩
        · simp only
          rw [k2]
          generalize hq : (keepL a.prio (l.take (j + 1)) ++ (S ++ [l[j]]) ++ l.drop (j + 1)).map ASK = q
          rw [← k1]
          have e8 : (j : Int) + 1 = ((j + 1 : Nat) : Int) := by omega
          rw [e8]
          (refine Sub.ofL [some 0, some 1] rfl (by simp) (by decide) (by simp [partL, AO.ro, AV.ro, AV.roL, names, AO.empty, SB, U8, SI, I64, STR]) (by simp [AO.bo, AV.bo, AV.boL, names]) ?_ <;> (try simp only [List.map_cons, List.map_nil, regsL, AV.ro, AV.roL, AV.bo, AV.boL, names, get_here, get_there, Nat.reduceBEq, List.getD_cons_zero, List.getD_cons_succ, List.getD_nil, and_true, true_and, Nat.reduceLT, List.length_cons, List.length_nil, Nat.reduceAdd, decide_true, Option.isSome_some, Bool.true_or, Bool.and_self, Option.isSome_none, Bool.false_or, beq_self_eq_true, wk0_self, wk0_nils]) <;> (try and_intros) <;> (first | done | rfl | exact .inl rfl | exact .inr ⟨rfl, _, _, rfl⟩ | (simp; done) | (simp; omega) | (refine .inl ?_; simp; done) | (refine .inl ?_; simp; omega)))
        · simp only
          rw [k1]
          simp only [List.length_append, List.length_cons, List.length_nil] at hS ⊢
          omega
    · have : j = l.length := by omega
      subst this
      rw [List.take_length] at hS hlen
      rw [List.length_append] at hS
      simp -implicitDefEqProofs (maxSteps := 500000) (disch := first | decide | omega) only [↓preS, ↓reduceIte, allS, Nat.reduceBEq, Nat.reduceAdd, Nat.reduceEqDiff, reduceIte, Int.reduceToNat, Int.reduceLE, Int.reduceLT, Nat.reduceLeDiff, Nat.reduceMul, Nat.reducePow, Nat.reduceLT, Int.reduceBEq, Int.reduceBNe, Int.reduceAdd, Int.reduceSub, Int.reduceMul, Int.reduceGT, Int.reduceGE, decS, Int.reduceNe, Int.reduceEq]
      refine ⟨by omega, by omega, by omega, by omega, by omega, by omega, rfl, List.replicate (l.length - (keepL a.prio l).length) default, by rw [List.length_replicate]; omega, [], ?_⟩
      have d1 : l.drop l.length = [] := List.drop_eq_nil_of_le (Nat.le_refl _)
      have d2 : (keepL a.prio l ++ S ++ l.drop l.length).take (keepL a.prio l).length = keepL a.prio l := by
        rw [List.append_assoc, List.take_left']
        rfl
      have d3 : (keepL a.prio l ++ S ++ l.drop l.length).drop ((keepL a.prio l).length + (l.length - (keepL a.prio l).length)) = [] := List.drop_eq_nil_of_le (by rw [d1]; simp; omega)
      rw [d2, d3, List.map_nil, List.append_nil, List.map_append, List.map_replicate]
      rfl
end Go.Proofs.Ytglimfdofgadjaa
