/- What functions of the program compute. No condition. -/
import Derived.Test.YtglimfdofgadjaaA3
set_option linter.unusedSimpArgs false
set_option linter.unusedVariables false
namespace Go.Proofs.Ytglimfdofgadjaa
open Go Go.Ab

theorem askT0 {a : Ask} {v : Int} : List.take 0 (askC a) ++ [AV.int .i64 v] ++ List.drop 1 (askC a) = askC { a with prio := v } := rfl
theorem askT1 {a : Ask} {v : Int} : List.take 1 (askC a) ++ [AV.int .i64 v] ++ List.drop 2 (askC a) = askC { a with label := v } := rfl
theorem askT2 {a : Ask} {v : Int} : List.take 2 (askC a) ++ [AV.int .i64 v] ++ List.drop 3 (askC a) = askC { a with mem := v } := rfl
theorem askT3 {a : Ask} {v : Int} : List.take 3 (askC a) ++ [AV.int .i64 v] ++ List.drop 4 (askC a) = askC { a with cores := v } := rfl
theorem askT4 {a : Ask} {v : Int} : List.take 4 (askC a) ++ [AV.int .i64 v] ++ List.drop 5 (askC a) = askC { a with count := v } := rfl
theorem askT5 {a : Ask} {v : Int} : List.take 5 (askC a) ++ [AV.int .i64 v] ++ List.drop 6 (askC a) = askC { a with node := v } := rfl
theorem askT6 {a : Ask} {v : Int} : List.take 6 (askC a) ++ [AV.int .i64 v] ++ List.drop 7 (askC a) = askC { a with rack := v } := rfl
theorem askT7 {a : Ask} {v : Int} : List.take 7 (askC a) ++ [AV.int .i64 v] ++ [] = askC { a with missed := v } := rfl
theorem askTg {a : Ask} {v w : Int} : List.take 2 (askC a) ++ [AV.int .i64 v, AV.int .i64 w] ++ List.drop 4 (askC a) = askC { a with mem := v, cores := w } := rfl
theorem askTy {a : Ask} {v : Int} : List.take 7 (askC a) ++ [AV.int .i64 v] = askC { a with missed := v } := rfl
theorem askTz {a : Ask} {v : Int} : AV.int .i64 v :: List.drop 1 (askC a) = askC { a with prio := v } := rfl
set_option linter.defProp false in
def askT := ai @askTy <| ai @askTz <| ai @askT0 (ai @askT1 (ai @askT2 (ai @askT3 (ai @askT4 (ai @askT5 (ai @askT6 (ai @askT7 @askTg)))))))
def win (a n : Int) : Int := if a.tmod n < 0 then a.tmod n + n else a.tmod n
theorem within_ok (a n : Int) (h : 0 < n) (h2 : n < 2 ^ 62) : PCall Try.prog 11 [.int .i64 a, .int .i64 n] (.int .i64 (win a n)) := by
  unfold PCall
  have h3 := Int.lt_tmod_of_pos a h
  have h4 := Int.tmod_lt_of_pos a h
  refine acall_of is11 (by simp) ?_
  unfold cc11 win
  simp -implicitDefEqProofs (maxSteps := 500000) (disch := first | decide | omega) only [↓preS, ↓reduceIte, allS, Nat.reduceBEq, Nat.reduceAdd, Nat.reduceEqDiff, reduceIte, Int.reduceToNat, Int.reduceLE, Int.reduceLT, Nat.reduceLeDiff, Nat.reduceMul, Nat.reducePow, Nat.reduceLT, Int.reduceBEq, Int.reduceBNe, Int.reduceAdd, Int.reduceSub, Int.reduceMul, Int.reduceGT, Int.reduceGE, decS, Int.reduceNe, Int.reduceEq]
  refine ⟨by omega, ?_⟩
  refine cK_split (fun hb => ?_) (fun hb => ?_)
  · simp (disch := omega) only [decide_eq_true_eq, decide_eq_false_iff_not, wrap_i64, beq_iff_eq, bne_iff_ne, beq_eq_false_iff_ne, bne_eq_false_iff_eq, Bool.not_eq_true, Bool.not_eq_false, eq_u32, ne_u32] at hb
    simp -implicitDefEqProofs (maxSteps := 500000) (disch := first | decide | omega) only [↓preS, ↓reduceIte, allS, Nat.reduceBEq, Nat.reduceAdd, Nat.reduceEqDiff, reduceIte, Int.reduceToNat, Int.reduceLE, Int.reduceLT, Nat.reduceLeDiff, Nat.reduceMul, Nat.reducePow, Nat.reduceLT, Int.reduceBEq, Int.reduceBNe, Int.reduceAdd, Int.reduceSub, Int.reduceMul, Int.reduceGT, Int.reduceGE, decS, Int.reduceNe, Int.reduceEq]
    rw [if_pos hb]
  · simp (disch := omega) only [decide_eq_true_eq, decide_eq_false_iff_not, wrap_i64, beq_iff_eq, bne_iff_ne, beq_eq_false_iff_ne, bne_eq_false_iff_eq, Bool.not_eq_true, Bool.not_eq_false, eq_u32, ne_u32] at hb
    simp -implicitDefEqProofs (maxSteps := 500000) (disch := first | decide | omega) only [↓preS, ↓reduceIte, allS, Nat.reduceBEq, Nat.reduceAdd, Nat.reduceEqDiff, reduceIte, Int.reduceToNat, Int.reduceLE, Int.reduceLT, Nat.reduceLeDiff, Nat.reduceMul, Nat.reducePow, Nat.reduceLT, Int.reduceBEq, Int.reduceBNe, Int.reduceAdd, Int.reduceSub, Int.reduceMul, Int.reduceGT, Int.reduceGE, decS, Int.reduceNe, Int.reduceEq]
    rw [if_neg hb]
theorem win_rng (a n : Int) (h : 0 < n) : 0 ≤ win a n ∧ win a n < n := by
  have h3 := Int.lt_tmod_of_pos a h
  have h4 := Int.tmod_lt_of_pos a h
  unfold win
  split <;> omega

def goodA (a : Ask) : Ask :=
  let r := win a.rack 101 - 1
  { prio := win a.prio 10, label := win a.label 2, mem := 1 + win a.mem 1073741824, cores := 1 + win a.cores 1073741824, count := win a.count 6, node := if r < 0 then -1 else win a.node 1001 - 1, rack := r, missed := win a.missed 101 }

set_option maxHeartbeats 4000000 in
theorem good_ok (a : Ask) : PCall Try.prog 9 [ASK a] (ASK (goodA a)) := by
  unfold PCall
  refine acallR_of isR9 (by simp) ?_
  unfold cc9
  have w1 := win_rng a.prio 10 (by omega)
  have w2 := win_rng a.label 2 (by omega)
  have w3 := win_rng a.mem 1073741824 (by omega)
  have w4 := win_rng a.cores 1073741824 (by omega)
  have w5 := win_rng a.count 6 (by omega)
  have w6 := win_rng a.node 1001 (by omega)
  have w7 := win_rng a.rack 101 (by omega)
  have w8 := win_rng a.missed 101 (by omega)
  have hr : win a.rack 101 - 1 < 0 ∨ ¬ win a.rack 101 - 1 < 0 := by omega
  unfold goodA
  simp only
  rcases hr with hr | hr
  · rw [if_pos hr]
    simp -implicitDefEqProofs (maxSteps := 500000) (disch := first | decide | omega) only [↓preS, ↓reduceIte, allS, Nat.reduceBEq, Nat.reduceAdd, Nat.reduceEqDiff, reduceIte, Int.reduceToNat, Int.reduceLE, Int.reduceLT, Nat.reduceLeDiff, Nat.reduceMul, Nat.reducePow, Nat.reduceLT, Int.reduceBEq, Int.reduceBNe, Int.reduceAdd, Int.reduceSub, Int.reduceMul, Int.reduceGT, Int.reduceGE, decS, Int.reduceNe, Int.reduceEq, askS, askT]
    repeat' first
      | with_reducible apply And.intro
      | (refine fcK_of (FCall.of (lent := false) (within_ok _ _ (by omega) (by omega)) (.refl rfl) rfl (by simp)) ?_; simp -implicitDefEqProofs (maxSteps := 500000) (disch := first | decide | omega) only [↓preS, ↓reduceIte, allS, Nat.reduceBEq, Nat.reduceAdd, Nat.reduceEqDiff, reduceIte, Int.reduceToNat, Int.reduceLE, Int.reduceLT, Nat.reduceLeDiff, Nat.reduceMul, Nat.reducePow, Nat.reduceLT, Int.reduceBEq, Int.reduceBNe, Int.reduceAdd, Int.reduceSub, Int.reduceMul, Int.reduceGT, Int.reduceGE, decS, Int.reduceNe, Int.reduceEq, askS, askT, fillOk, fillAV, List.append_nil])
      | (refine acK_of (FCall.of (lent := false) (within_ok _ _ (by omega) (by omega)) (.refl rfl) rfl (by simp)) ?_; simp -implicitDefEqProofs (maxSteps := 500000) (disch := first | decide | omega) only [↓preS, ↓reduceIte, allS, Nat.reduceBEq, Nat.reduceAdd, Nat.reduceEqDiff, reduceIte, Int.reduceToNat, Int.reduceLE, Int.reduceLT, Nat.reduceLeDiff, Nat.reduceMul, Nat.reducePow, Nat.reduceLT, Int.reduceBEq, Int.reduceBNe, Int.reduceAdd, Int.reduceSub, Int.reduceMul, Int.reduceGT, Int.reduceGE, decS, Int.reduceNe, Int.reduceEq, askS, askT, fillOk, fillAV, List.append_nil])
  · rw [if_neg hr]
    simp -implicitDefEqProofs (maxSteps := 500000) (disch := first | decide | omega) only [↓preS, ↓reduceIte, allS, Nat.reduceBEq, Nat.reduceAdd, Nat.reduceEqDiff, reduceIte, Int.reduceToNat, Int.reduceLE, Int.reduceLT, Nat.reduceLeDiff, Nat.reduceMul, Nat.reducePow, Nat.reduceLT, Int.reduceBEq, Int.reduceBNe, Int.reduceAdd, Int.reduceSub, Int.reduceMul, Int.reduceGT, Int.reduceGE, decS, Int.reduceNe, Int.reduceEq, askS, askT]
    repeat' first
      | with_reducible apply And.intro
      | (refine fcK_of (FCall.of (lent := false) (within_ok _ _ (by omega) (by omega)) (.refl rfl) rfl (by simp)) ?_; simp -implicitDefEqProofs (maxSteps := 500000) (disch := first | decide | omega) only [↓preS, ↓reduceIte, allS, Nat.reduceBEq, Nat.reduceAdd, Nat.reduceEqDiff, reduceIte, Int.reduceToNat, Int.reduceLE, Int.reduceLT, Nat.reduceLeDiff, Nat.reduceMul, Nat.reducePow, Nat.reduceLT, Int.reduceBEq, Int.reduceBNe, Int.reduceAdd, Int.reduceSub, Int.reduceMul, Int.reduceGT, Int.reduceGE, decS, Int.reduceNe, Int.reduceEq, askS, askT, fillOk, fillAV, List.append_nil])
      | (refine acK_of (FCall.of (lent := false) (within_ok _ _ (by omega) (by omega)) (.refl rfl) rfl (by simp)) ?_; simp -implicitDefEqProofs (maxSteps := 500000) (disch := first | decide | omega) only [↓preS, ↓reduceIte, allS, Nat.reduceBEq, Nat.reduceAdd, Nat.reduceEqDiff, reduceIte, Int.reduceToNat, Int.reduceLE, Int.reduceLT, Nat.reduceLeDiff, Nat.reduceMul, Nat.reducePow, Nat.reduceLT, Int.reduceBEq, Int.reduceBNe, Int.reduceAdd, Int.reduceSub, Int.reduceMul, Int.reduceGT, Int.reduceGE, decS, Int.reduceNe, Int.reduceEq, askS, askT, fillOk, fillAV, List.append_nil])
theorem delf2 (a : Ask) (l : List Ask) (hl : l.length ≤ 2 ^ 40) : ACall Try.prog 21 [.own 1 8 0 l.length, .fn (.func 23) [] [.ref 0 0 0]] [.box (askC a), .arr 8 (l.map ASK)] fun y G => y = .own 1 8 0 (keepL a.prio l).length ∧ ∃ zs : List Ask, (keepL a.prio l).length + zs.length = l.length ∧ G = [.box (askC a), .arr 8 ((keepL a.prio l ++ zs).map ASK)] := by
  refine (delf_ok a l hl).drop ?_
  rintro y G ⟨rfl, zs, hzl, G', rfl⟩
  refine ⟨[.box (askC a), .arr 8 ((keepL a.prio l ++ zs).map ASK)], G', rfl, by simp, rfl, ?_, rfl, zs, hzl, rfl⟩
  intro o ho
  simp only [List.mem_cons, List.not_mem_nil, or_false] at ho
  rcases ho with rfl | rfl <;> rfl
def insK (p : Int) (m : List Ask) : Nat := m.findIdx fun x => !decide (x.prio < p)
def setL (a : Ask) (l : List Ask) : List Ask × Int :=
  let m := keepL a.prio l
  if a.count = 0 then (m, 0) else if 8 ≤ m.length then ([], 4) else (insL (insK a.prio m) { a with missed := 0 } m, 0)
def setR (q : List Ask × Int) : AV := .tup [.sl false 8 (q.1.map ASK), .int .i64 q.2]
set_option maxHeartbeats 4000000 in
theorem set_ok (t : Bool) (l : List Ask) (a : Ask) (hl : l.length ≤ 2 ^ 40) : PCall Try.prog 10 [.sl t 8 (l.map ASK), ASK a] (setR (setL a l)) := by
  unfold PCall
  refine PCall.wk3 (acall_of is10 (by simp) ?_)
  unfold cc10
  simp -implicitDefEqProofs (maxSteps := 500000) (disch := first | decide | omega) only [↓preS, ↓reduceIte, allS, Nat.reduceBEq, Nat.reduceAdd, Nat.reduceEqDiff, reduceIte, Int.reduceToNat, Int.reduceLE, Int.reduceLT, Nat.reduceLeDiff, Nat.reduceMul, Nat.reducePow, Nat.reduceLT, Int.reduceBEq, Int.reduceBNe, Int.reduceAdd, Int.reduceSub, Int.reduceMul, Int.reduceGT, Int.reduceGE, decS, Int.reduceNe, Int.reduceEq, askS, askT]
  refine acK_new (own_ok t l hl) rfl rfl ?_
  rintro y G ⟨rfl, rfl⟩
  simp -implicitDefEqProofs (maxSteps := 500000) (disch := first | decide | omega) only [↓preS, ↓reduceIte, allS, Nat.reduceBEq, Nat.reduceAdd, Nat.reduceEqDiff, reduceIte, Int.reduceToNat, Int.reduceLE, Int.reduceLT, Nat.reduceLeDiff, Nat.reduceMul, Nat.reducePow, Nat.reduceLT, Int.reduceBEq, Int.reduceBNe, Int.reduceAdd, Int.reduceSub, Int.reduceMul, Int.reduceGT, Int.reduceGE, decS, Int.reduceNe, Int.reduceEq, askS, askT, AV.ren, AO.ren, up]
  refine (delf2 a l hl).to ?_
  rintro y G ⟨rfl, zs, hzl, rfl⟩
  have hml : (keepL a.prio l).length ≤ l.length := List.length_filter_le _ _
  unfold setL
  simp only
  generalize keepL a.prio l = m at hml hzl ⊢
  by_cases h1 : a.count = 0
  · rw [if_pos h1]
    simp -implicitDefEqProofs (maxSteps := 500000) (disch := first | decide | omega) only [↓preS, ↓reduceIte, allS, Nat.reduceBEq, Nat.reduceAdd, Nat.reduceEqDiff, reduceIte, Int.reduceToNat, Int.reduceLE, Int.reduceLT, Nat.reduceLeDiff, Nat.reduceMul, Nat.reducePow, Nat.reduceLT, Int.reduceBEq, Int.reduceBNe, Int.reduceAdd, Int.reduceSub, Int.reduceMul, Int.reduceGT, Int.reduceGE, decS, Int.reduceNe, Int.reduceEq, askS, askT]
    rw [if_pos (by omega), List.take_left' rfl]
    exact .inl (.inl (.inl rfl))
  rw [if_neg h1]
  by_cases h2 : 8 ≤ m.length
  · rw [if_pos h2]
    simp -implicitDefEqProofs (maxSteps := 500000) (disch := first | decide | omega) only [↓preS, ↓reduceIte, allS, Nat.reduceBEq, Nat.reduceAdd, Nat.reduceEqDiff, reduceIte, Int.reduceToNat, Int.reduceLE, Int.reduceLT, Nat.reduceLeDiff, Nat.reduceMul, Nat.reducePow, Nat.reduceLT, Int.reduceBEq, Int.reduceBNe, Int.reduceAdd, Int.reduceSub, Int.reduceMul, Int.reduceGT, Int.reduceGE, decS, Int.reduceNe, Int.reduceEq, askS, askT]
    exact .inr ⟨_, _, rfl, rfl, .inl (.inr ⟨rfl, _, _, rfl⟩), .inl (.inl rfl), trivial⟩
  rw [if_neg h2]
  have last : ∀ i : Nat, i ≤ m.length → (∀ j, (h : j < i) → (h2 : j < m.length) → m[j].prio < a.prio) → (i = m.length ∨ ∃ h : i < m.length, ¬ m[i].prio < a.prio) → insK a.prio m = i := by
    intro i hi hn hor
    unfold insK
    rcases hor with rfl | ⟨h, hp⟩
    · apply List.findIdx_eq_length.2
      intro x hx
      obtain ⟨j, hj, rfl⟩ := List.getElem_of_mem hx
      simp [hn j hj hj]
    · rw [List.findIdx_eq h]
      exact ⟨by simp [hp], fun j hj => by simp [hn j hj (by omega)]⟩
  simp -implicitDefEqProofs (maxSteps := 500000) (disch := first | decide | omega) only [↓preS, ↓reduceIte, allS, Nat.reduceBEq, Nat.reduceAdd, Nat.reduceEqDiff, reduceIte, Int.reduceToNat, Int.reduceLE, Int.reduceLT, Nat.reduceLeDiff, Nat.reduceMul, Nat.reducePow, Nat.reduceLT, Int.reduceBEq, Int.reduceBNe, Int.reduceAdd, Int.reduceSub, Int.reduceMul, Int.reduceGT, Int.reduceGE, decS, Int.reduceNe, Int.reduceEq, askS, askT]
  unfold cc10L0
  simp -implicitDefEqProofs (maxSteps := 500000) (disch := first | decide | omega) only [↓preS, ↓reduceIte, allS, Nat.reduceBEq, Nat.reduceAdd, Nat.reduceEqDiff, reduceIte, Int.reduceToNat, Int.reduceLE, Int.reduceLT, Nat.reduceLeDiff, Nat.reduceMul, Nat.reducePow, Nat.reduceLT, Int.reduceBEq, Int.reduceBNe, Int.reduceAdd, Int.reduceSub, Int.reduceMul, Int.reduceGT, Int.reduceGE, decS, Int.reduceNe, Int.reduceEq]
  refine aw_loopS (σ := Nat) (fun i => ⟨[(3, .ref 0 0 0), (6, .own 1 8 0 m.length), (7, .int .i64 (i : Int))], [.box (askC { a with missed := 0 }), .arr 8 ((m ++ zs).map ASK)]⟩)
    (fun i => i ≤ m.length ∧ ∀ j, (h : j < i) → (h2 : j < m.length) → m[j].prio < a.prio) (fun i => m.length - i) 0 (.inl rfl) ⟨by omega, fun j h => by omega⟩ ?_
  rintro i ⟨hii, hn⟩
  unfold cc10l0
  have hlz : m.length ≤ m.length + zs.length := by omega
  by_cases hil : i < m.length
  · have hg : (m ++ zs).getD i default = m[i] := by simp [List.getD_eq_getElem?_getD, List.getElem?_append_left hil, hil]
    simp -implicitDefEqProofs (maxSteps := 500000) (disch := first | decide | omega) only [↓preS, ↓reduceIte, allS, Nat.reduceBEq, Nat.reduceAdd, Nat.reduceEqDiff, reduceIte, Int.reduceToNat, Int.reduceLE, Int.reduceLT, Nat.reduceLeDiff, Nat.reduceMul, Nat.reducePow, Nat.reduceLT, Int.reduceBEq, Int.reduceBNe, Int.reduceAdd, Int.reduceSub, Int.reduceMul, Int.reduceGT, Int.reduceGE, decS, Int.reduceNe, Int.reduceEq, askS, hg]
    refine ⟨by omega, by omega, by omega, ?_⟩
    refine cK_split (fun hb => ?_) (fun hb => ?_)
    · simp (disch := omega) only [decide_eq_true_eq, decide_eq_false_iff_not, wrap_i64, beq_iff_eq, bne_iff_ne, beq_eq_false_iff_ne, bne_eq_false_iff_eq, Bool.not_eq_true, Bool.not_eq_false, eq_u32, ne_u32] at hb
      simp -implicitDefEqProofs (maxSteps := 500000) (disch := first | decide | omega) only [↓preS, ↓reduceIte, allS, Nat.reduceBEq, Nat.reduceAdd, Nat.reduceEqDiff, reduceIte, Int.reduceToNat, Int.reduceLE, Int.reduceLT, Nat.reduceLeDiff, Nat.reduceMul, Nat.reducePow, Nat.reduceLT, Int.reduceBEq, Int.reduceBNe, Int.reduceAdd, Int.reduceSub, Int.reduceMul, Int.reduceGT, Int.reduceGE, decS, Int.reduceNe, Int.reduceEq, askS]
      refine ⟨i + 1, .inl rfl, ⟨by omega, fun j h h2 => ?_⟩, by omega⟩
      by_cases hj : j = i
      · subst hj; exact hb
      · exact hn j (by omega) h2
    · simp (disch := omega) only [decide_eq_true_eq, decide_eq_false_iff_not, wrap_i64, beq_iff_eq, bne_iff_ne, beq_eq_false_iff_ne, bne_eq_false_iff_eq, Bool.not_eq_true, Bool.not_eq_false, eq_u32, ne_u32] at hb
      simp -implicitDefEqProofs (maxSteps := 500000) (disch := first | decide | omega) only [↓preS, ↓reduceIte, allS, Nat.reduceBEq, Nat.reduceAdd, Nat.reduceEqDiff, reduceIte, Int.reduceToNat, Int.reduceLE, Int.reduceLT, Nat.reduceLeDiff, Nat.reduceMul, Nat.reducePow, Nat.reduceLT, Int.reduceBEq, Int.reduceBNe, Int.reduceAdd, Int.reduceSub, Int.reduceMul, Int.reduceGT, Int.reduceGE, decS, Int.reduceNe, Int.reduceEq, askS]
      have hi := last i (by omega) hn (.inr ⟨hil, hb⟩)
      have hlt : m.length + (zs.map ASK).length ≤ 2 ^ 40 := by simp; omega
      rw [List.map_append]
      refine ((ins_ok m (zs.map ASK) { a with missed := 0 } i (by omega) hlt).frame [1, 2] rfl (by simp) (by simp) ?_ rfl).to ?_
      · intro k o hk
        match k, hk with
        | 0, hk => simp only [List.getElem?_cons_zero, Option.some.injEq] at hk; subst hk; exact ⟨rfl, rfl⟩
        | 1, hk => simp only [List.getElem?_cons_succ, List.getElem?_cons_zero, Option.some.injEq] at hk; subst hk; exact ⟨rfl, rfl⟩
        | k + 2, hk => simp at hk
      rintro y G ⟨y0, Hr, rfl, rfl, rfl⟩
      simp -implicitDefEqProofs (maxSteps := 500000) (disch := first | decide | omega) only [↓preS, ↓reduceIte, allS, Nat.reduceBEq, Nat.reduceAdd, Nat.reduceEqDiff, reduceIte, Int.reduceToNat, Int.reduceLE, Int.reduceLT, Nat.reduceLeDiff, Nat.reduceMul, Nat.reducePow, Nat.reduceLT, Int.reduceBEq, Int.reduceBNe, Int.reduceAdd, Int.reduceSub, Int.reduceMul, Int.reduceGT, Int.reduceGE, decS, Int.reduceNe, Int.reduceEq, AV.ren]
      rw [hi]
      exact .inl (.inl (.inl rfl))
  · have : i = m.length := by omega
    subst this
    simp -implicitDefEqProofs (maxSteps := 500000) (disch := first | decide | omega) only [↓preS, ↓reduceIte, allS, Nat.reduceBEq, Nat.reduceAdd, Nat.reduceEqDiff, reduceIte, Int.reduceToNat, Int.reduceLE, Int.reduceLT, Nat.reduceLeDiff, Nat.reduceMul, Nat.reducePow, Nat.reduceLT, Int.reduceBEq, Int.reduceBNe, Int.reduceAdd, Int.reduceSub, Int.reduceMul, Int.reduceGT, Int.reduceGE, decS, Int.reduceNe, Int.reduceEq, askS]
    have hi := last m.length (by omega) hn (.inl rfl)
    have hlt : m.length + (zs.map ASK).length ≤ 2 ^ 40 := by simp; omega
    rw [List.map_append]
    refine ((ins_ok m (zs.map ASK) { a with missed := 0 } m.length (by omega) hlt).frame [1, 2] rfl (by simp) (by simp) ?_ rfl).to ?_
    · intro k o hk
      match k, hk with
      | 0, hk => simp only [List.getElem?_cons_zero, Option.some.injEq] at hk; subst hk; exact ⟨rfl, rfl⟩
      | 1, hk => simp only [List.getElem?_cons_succ, List.getElem?_cons_zero, Option.some.injEq] at hk; subst hk; exact ⟨rfl, rfl⟩
      | k + 2, hk => simp at hk
    rintro y G ⟨y0, Hr, rfl, rfl, rfl⟩
    simp -implicitDefEqProofs (maxSteps := 500000) (disch := first | decide | omega) only [↓preS, ↓reduceIte, allS, Nat.reduceBEq, Nat.reduceAdd, Nat.reduceEqDiff, reduceIte, Int.reduceToNat, Int.reduceLE, Int.reduceLT, Nat.reduceLeDiff, Nat.reduceMul, Nat.reducePow, Nat.reduceLT, Int.reduceBEq, Int.reduceBNe, Int.reduceAdd, Int.reduceSub, Int.reduceMul, Int.reduceGT, Int.reduceGE, decS, Int.reduceNe, Int.reduceEq, AV.ren]
    rw [hi]
    exact .inl (.inl (.inl rfl))
end Go.Proofs.Ytglimfdofgadjaa
