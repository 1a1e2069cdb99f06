/- What functions of the program compute. No condition. -/
import Derived.Test.YtglimfdofgadjaaA6
set_option linter.unusedSimpArgs false
set_option linter.unusedVariables false
namespace Go.Proofs.Ytglimfdofgadjaa
open Go Go.Ab

theorem askD1 {a : Ask} : partOf (List.drop 1 (askC a)) 0 1 false = .int .i64 a.label := rfl
theorem askD2 {a : Ask} : partOf (List.drop 2 (askC a)) 0 1 false = .int .i64 a.mem := rfl
theorem askD3 {a : Ask} : partOf (List.drop 3 (askC a)) 0 1 false = .int .i64 a.cores := rfl
theorem askD4 {a : Ask} : partOf (List.drop 4 (askC a)) 0 1 false = .int .i64 a.count := rfl
theorem askD5 {a : Ask} : partOf (List.drop 5 (askC a)) 0 1 false = .int .i64 a.node := rfl
theorem askD6 {a : Ask} : partOf (List.drop 6 (askC a)) 0 1 false = .int .i64 a.rack := rfl
theorem askD7 {a : Ask} : partOf (List.drop 7 (askC a)) 0 1 false = .int .i64 a.missed := rfl
set_option linter.defProp false in
def askD := ai @askD1 (ai @askD2 (ai @askD3 (ai @askD4 (ai @askD5 (ai @askD6 @askD7)))))
set_option maxRecDepth 20000 in
set_option maxHeartbeats 4000000 in
theorem xpend_ok (t : Bool) (lb : Int) (l : List Ask) (hl : l.length ≤ 2 ^ 20) (hm : ∀ a ∈ l, Rng a) : PCall Try.prog 19 [.sl t 8 (l.map ASK), .int .i64 lb] (VEC (pendL lb l)) := by
  unfold PCall
  refine acallR_of isR19 (by simp) ?_
  unfold cc19
  simp -implicitDefEqProofs (maxSteps := 500000) (disch := first | decide | omega) only [↓preS, ↓reduceIte, allS, Nat.reduceBEq, Nat.reduceAdd, Nat.reduceEqDiff, reduceIte, Int.reduceToNat, Int.reduceLE, Int.reduceLT, Nat.reduceLeDiff, Nat.reduceMul, Nat.reducePow, Nat.reduceLT, Int.reduceBEq, Int.reduceBNe, Int.reduceAdd, Int.reduceSub, Int.reduceMul, Int.reduceGT, Int.reduceGE, decS, Int.reduceNe, Int.reduceEq, fillOk, fillAV]
  unfold cc19L0
  simp -implicitDefEqProofs (maxSteps := 500000) (disch := first | decide | omega) only [↓preS, ↓reduceIte, allS, Nat.reduceBEq, Nat.reduceAdd, Nat.reduceEqDiff, reduceIte, Int.reduceToNat, Int.reduceLE, Int.reduceLT, Nat.reduceLeDiff, Nat.reduceMul, Nat.reducePow, Nat.reduceLT, Int.reduceBEq, Int.reduceBNe, Int.reduceAdd, Int.reduceSub, Int.reduceMul, Int.reduceGT, Int.reduceGE, decS, Int.reduceNe, Int.reduceEq]
  refine aw_loopS (σ := Nat) (fun i => ⟨[(0, .sl t 8 (l.map ASK)), (1, .int .i64 lb), (4, .ref 0 0 0), (5, .ref 1 0 0), (6, .int .i64 (i : Int))], [.box [.int .i64 0, .int .i64 0], .box [.int .i64 (pendL lb (l.take i)).1, .int .i64 (pendL lb (l.take i)).2]]⟩)
    (fun i => i ≤ l.length) (fun i => l.length - i) 0 (.inl rfl) (by omega) ?_
  intro i hii
  unfold cc19l0
  have pr := pendL_rng lb (l.take i) (fun a ha => hm a (List.mem_of_mem_take ha)) (by simp; omega)
  have hlt : (l.take i).length = i := by simp; omega
  rw [hlt] at pr
  by_cases hil : i < l.length
  · have hg : l.getD i default = l[i] := by simp [hil]
    have hr := hm _ (List.getElem_mem hil)
    have e1 : pendL lb (l.take (i + 1)) = pendF lb (pendL lb (l.take i)) l[i] := by
      unfold pendL
      rw [List.take_succ_eq_append_getElem hil, List.foldl_append]
      rfl
    have r0 := mul_rng hr.m0 hr.m1 hr.n0 hr.n1
    have r1 := mul_rng hr.c0 hr.c1 hr.n0 hr.n1
    by_cases hlb : lb = l[i].label
    · have hlb2 : l[i].label = lb := hlb.symm
      simp -implicitDefEqProofs (maxSteps := 500000) (disch := first | decide | omega) only [↓preS, ↓reduceIte, allS, Nat.reduceBEq, Nat.reduceAdd, Nat.reduceEqDiff, reduceIte, Int.reduceToNat, Int.reduceLE, Int.reduceLT, Nat.reduceLeDiff, Nat.reduceMul, Nat.reducePow, Nat.reduceLT, Int.reduceBEq, Int.reduceBNe, Int.reduceAdd, Int.reduceSub, Int.reduceMul, Int.reduceGT, Int.reduceGE, decS, Int.reduceNe, Int.reduceEq, askS, askT, askD, hg, List.append_nil, fillOk, fillAV, List.drop_zero, List.drop_drop, Nat.reduceSub]
      refine ⟨by omega, by omega, by omega, by omega, by omega, by omega, by omega, by omega, by omega, by omega, ?_⟩
      refine acK_of (FCall.of (lent := false) (plus_ok (pendL lb (l.take i)) (l[i].mem * l[i].count, l[i].cores * l[i].count) ⟨by omega, by omega⟩ ⟨by omega, by omega⟩ ⟨by simp only; omega, by simp only; omega⟩ ⟨by simp only; omega, by simp only; omega⟩) (.refl rfl) rfl (by simp)) ?_
      unfold VEC
      simp -implicitDefEqProofs (maxSteps := 500000) (disch := first | decide | omega) only [↓preS, ↓reduceIte, allS, Nat.reduceBEq, Nat.reduceAdd, Nat.reduceEqDiff, reduceIte, Int.reduceToNat, Int.reduceLE, Int.reduceLT, Nat.reduceLeDiff, Nat.reduceMul, Nat.reducePow, Nat.reduceLT, Int.reduceBEq, Int.reduceBNe, Int.reduceAdd, Int.reduceSub, Int.reduceMul, Int.reduceGT, Int.reduceGE, decS, Int.reduceNe, Int.reduceEq]
      refine ⟨i + 1, ?_, by omega, by omega⟩
      have e2 : pendL lb (l.take (i + 1)) = ((pendL lb (l.take i)).1 + l[i].mem * l[i].count, (pendL lb (l.take i)).2 + l[i].cores * l[i].count) := by
        rw [e1]
        unfold pendF
        rw [if_pos hlb]
      rw [e2]
      (refine Sub.ofL [some 0, some 1] rfl (by simp) (by decide) (by simp [partL, AO.ro, AV.ro, AV.roL, names, AO.empty, SB, U8, SI, I64, STR]) (by simp [AO.bo, AV.bo, AV.boL, names]) ?_ <;> (try simp only [List.map_cons, List.map_nil, regsL, AV.ro, AV.roL, AV.bo, AV.boL, names, get_here, get_there, Nat.reduceBEq, List.getD_cons_zero, List.getD_cons_succ, List.getD_nil, and_true, true_and, Nat.reduceLT, List.length_cons, List.length_nil, Nat.reduceAdd, decide_true, Option.isSome_some, Bool.true_or, Bool.and_self, Option.isSome_none, Bool.false_or, beq_self_eq_true, wk0_self, wk0_nils]) <;> (try and_intros) <;> (first | done | rfl | exact .inl rfl | exact .inr ⟨rfl, _, _, rfl⟩ | (simp; done) | (simp; omega) | (refine .inl ?_; simp; done) | (refine .inl ?_; simp; omega)))
    · have hlb2 : ¬ l[i].label = lb := fun h => hlb h.symm
      simp -implicitDefEqProofs (maxSteps := 500000) (disch := first | decide | omega) only [↓preS, ↓reduceIte, allS, Nat.reduceBEq, Nat.reduceAdd, Nat.reduceEqDiff, reduceIte, Int.reduceToNat, Int.reduceLE, Int.reduceLT, Nat.reduceLeDiff, Nat.reduceMul, Nat.reducePow, Nat.reduceLT, Int.reduceBEq, Int.reduceBNe, Int.reduceAdd, Int.reduceSub, Int.reduceMul, Int.reduceGT, Int.reduceGE, decS, Int.reduceNe, Int.reduceEq, askS, askT, askD, hg, List.append_nil, Nat.reduceSub]
      refine ⟨by omega, by omega, i + 1, ?_, by omega, by omega⟩
      have e2 : pendL lb (l.take (i + 1)) = pendL lb (l.take i) := by
        rw [e1]
        unfold pendF
        rw [if_neg hlb]
      rw [e2]
      (refine Sub.ofL [some 0, some 1] rfl (by simp) (by decide) (by simp [partL, AO.ro, AV.ro, AV.roL, names, AO.empty, SB, U8, SI, I64, STR]) (by simp [AO.bo, AV.bo, AV.boL, names]) ?_ <;> (try simp only [List.map_cons, List.map_nil, regsL, AV.ro, AV.roL, AV.bo, AV.boL, names, get_here, get_there, Nat.reduceBEq, List.getD_cons_zero, List.getD_cons_succ, List.getD_nil, and_true, true_and, Nat.reduceLT, List.length_cons, List.length_nil, Nat.reduceAdd, decide_true, Option.isSome_some, Bool.true_or, Bool.and_self, Option.isSome_none, Bool.false_or, beq_self_eq_true, wk0_self, wk0_nils]) <;> (try and_intros) <;> (first | done | rfl | exact .inl rfl | exact .inr ⟨rfl, _, _, rfl⟩ | (simp; done) | (simp; omega) | (refine .inl ?_; simp; done) | (refine .inl ?_; simp; omega)))
  · have : i = l.length := by omega
    subst this
    simp -implicitDefEqProofs (maxSteps := 500000) (disch := first | decide | omega) only [↓preS, ↓reduceIte, allS, Nat.reduceBEq, Nat.reduceAdd, Nat.reduceEqDiff, reduceIte, Int.reduceToNat, Int.reduceLE, Int.reduceLT, Nat.reduceLeDiff, Nat.reduceMul, Nat.reducePow, Nat.reduceLT, Int.reduceBEq, Int.reduceBNe, Int.reduceAdd, Int.reduceSub, Int.reduceMul, Int.reduceGT, Int.reduceGE, decS, Int.reduceNe, Int.reduceEq]
    rfl
def xsS (a : Ask) (s : List Ask × Bool) (x : Ask) : List Ask × Bool :=
  if x.prio = a.prio then s else if s.2 = false ∧ x.prio > a.prio then (s.1 ++ [a] ++ [x], true) else (s.1 ++ [x], s.2)
def xs (a : Ask) (l : List Ask) (i : Nat) : List Ask × Bool := (l.take i).foldl (xsS a) ([], a.count == 0)
theorem xs_0 {a : Ask} {l : List Ask} : xs a l 0 = ([], a.count == 0) := rfl
theorem xs_S (a : Ask) (l : List Ask) (i : Nat) (h : i < l.length) : xs a l (i + 1) = xsS a (xs a l i) l[i] := by
  unfold xs
  rw [List.take_succ_eq_append_getElem h, List.foldl_append]
  rfl
theorem xs_len (a : Ask) (l : List Ask) (i : Nat) (h : i ≤ l.length) : (xs a l i).1.length ≤ 2 * i := by
  induction i with
  | zero => simp [xs]
  | succ i ih =>
    rw [xs_S a l i (by omega)]
    have := ih (by omega)
    unfold xsS
    split
    · omega
    · split <;> simp <;> omega
theorem keep_S (p : Int) (l : List Ask) (i : Nat) (h : i < l.length) : keepL p (l.take (i + 1)) = if l[i].prio = p then keepL p (l.take i) else keepL p (l.take i) ++ [l[i]] := by
  unfold keepL
  rw [List.take_succ_eq_append_getElem h, List.filter_append]
  by_cases hp : l[i].prio = p <;> simp [prioP, hp]
theorem xs_spec (a : Ask) (l : List Ask) (i : Nat) (h : i ≤ l.length) : xs a l i =
    if a.count = 0 then (keepL a.prio (l.take i), true) else
      if insK a.prio (keepL a.prio (l.take i)) < (keepL a.prio (l.take i)).length then (insL (insK a.prio (keepL a.prio (l.take i))) a (keepL a.prio (l.take i)), true) else (keepL a.prio (l.take i), false) := by
  induction i with
  | zero =>
    rw [xs_0]
    by_cases hc : a.count = 0 <;> simp [hc, keepL, insK]
  | succ i ih =>
    have hnk : ∀ x ∈ keepL a.prio (l.take i), x.prio ≠ a.prio := fun x hx => by
      have := (List.mem_filter.1 hx).2
      simpa [prioP] using this
    rw [xs_S a l i (by omega), ih (by omega), keep_S a.prio l i (by omega)]
    generalize keepL a.prio (l.take i) = m at hnk
    unfold xsS
    by_cases hp : l[i].prio = a.prio
    · rw [if_pos hp, if_pos hp]
    · rw [if_neg hp, if_neg hp]
      have hfi : insK a.prio (m ++ [l[i]]) = if insK a.prio m < m.length then insK a.prio m else if l[i].prio < a.prio then m.length + 1 else m.length := by
        unfold insK
        rw [List.findIdx_append]
        split
        · rfl
        · by_cases hlt : l[i].prio < a.prio <;> simp [hlt, List.findIdx_cons] <;> omega
      have hle : insK a.prio m ≤ m.length := List.findIdx_le_length
      by_cases hc : a.count = 0
      · simp [hc]
      · rw [if_neg hc, if_neg hc]
        by_cases hk : insK a.prio m < m.length
        · rw [if_pos hk] at hfi
          rw [if_pos hk, hfi, if_neg (by simp), if_pos (by simp; omega)]
          congr 1
          unfold insL
          rw [List.take_append_of_le_length hle, List.drop_append_of_le_length hle]
          simp
        · have hke : insK a.prio m = m.length := by omega
          rw [if_neg hk] at hfi
          rw [if_neg hk]
          by_cases hlt : l[i].prio < a.prio
          · rw [if_pos hlt] at hfi
            rw [hfi, if_neg (by simp only; omega), if_neg (by simp)]
          · rw [if_neg hlt] at hfi
            rw [hfi, if_pos ⟨rfl, by omega⟩, if_pos (by simp)]
            congr 1
            unfold insL
            simp
theorem xs_set (a : Ask) (l : List Ask) (h8 : l.length ≤ 8) : setL a l =
    let s := xs { a with missed := 0 } l l.length
    let o := if s.2 = true then s.1 else s.1 ++ [{ a with missed := 0 }]
    if o.length > 8 then ([], 4) else (o, 0) := by
  have hs := xs_spec { a with missed := 0 } l l.length (Nat.le_refl _)
  rw [List.take_length] at hs
  simp only at hs ⊢
  rw [hs]
  unfold setL
  simp only
  have hml : (keepL a.prio l).length ≤ l.length := List.length_filter_le _ _
  generalize keepL a.prio l = m at hml
  have hle : insK a.prio m ≤ m.length := List.findIdx_le_length
  by_cases hc : a.count = 0
  · rw [if_pos hc, if_pos hc]
    simp only [if_true]
    rw [if_neg (by omega)]
  · rw [if_neg hc, if_neg hc]
    by_cases hk : insK a.prio m < m.length
    · rw [if_pos hk]
      simp only [if_true]
      have : (insL (insK a.prio m) { a with missed := 0 } m).length = m.length + 1 := by simp [insL]; omega
      rw [this]
      by_cases h9 : 8 ≤ m.length
      · rw [if_pos h9, if_pos (by omega)]
      · rw [if_neg h9, if_neg (by omega)]
    · rw [if_neg hk]
      have hke : insK a.prio m = m.length := by omega
      have : insL (insK a.prio m) { a with missed := 0 } m = m ++ [{ a with missed := 0 }] := by rw [hke]; simp [insL]
      rw [this]
      simp only [Bool.false_eq_true, if_false, List.length_append, List.length_cons, List.length_nil]
      by_cases h9 : 8 ≤ m.length
      · rw [if_pos h9, if_pos (by omega)]
      · rw [if_neg h9, if_neg (by omega)]
set_option maxRecDepth 20000 in
set_option maxHeartbeats 4000000 in
theorem xset_ok (t : Bool) (l : List Ask) (a : Ask) (h8 : l.length ≤ 8) : PCall Try.prog 16 [.sl t 8 (l.map ASK), ASK a] (setR (setL a l)) := by
  refine PCall.wk3 (acall_of is16 (by simp) ?_)
  unfold cc16
  simp -implicitDefEqProofs (maxSteps := 500000) (disch := first | decide | omega) only [↓preS, ↓reduceIte, allS, Nat.reduceBEq, Nat.reduceAdd, Nat.reduceEqDiff, reduceIte, Int.reduceToNat, Int.reduceLE, Int.reduceLT, Nat.reduceLeDiff, Nat.reduceMul, Nat.reducePow, Nat.reduceLT, Int.reduceBEq, Int.reduceBNe, Int.reduceAdd, Int.reduceSub, Int.reduceMul, Int.reduceGT, Int.reduceGE, decS, Int.reduceNe, Int.reduceEq, askS, askT, List.append_nil]
  unfold cc16L0
  simp -implicitDefEqProofs (maxSteps := 500000) (disch := first | decide | omega) only [↓preS, ↓reduceIte, allS, Nat.reduceBEq, Nat.reduceAdd, Nat.reduceEqDiff, reduceIte, Int.reduceToNat, Int.reduceLE, Int.reduceLT, Nat.reduceLeDiff, Nat.reduceMul, Nat.reducePow, Nat.reduceLT, Int.reduceBEq, Int.reduceBNe, Int.reduceAdd, Int.reduceSub, Int.reduceMul, Int.reduceGT, Int.reduceGE, decS, Int.reduceNe, Int.reduceEq]
  generalize hb : ({ a with missed := 0 } : Ask) = b
  refine aw_loopS (σ := Nat) (fun i => ⟨[(0, .sl t 8 (l.map ASK)), (3, .ref 0 0 0), (6, .own 1 8 0 (xs b l i).1.length), (7, .bool (xs b l i).2), (8, .int .i64 (i : Int))], [.box (askC b), .arr 8 ((xs b l i).1.map ASK)]⟩)
    (fun i => i ≤ l.length) (fun i => l.length - i) 0 ?_ (by omega) ?_
  · rw [xs_0, ← hb]
    (refine Sub.ofL [some 0, none] rfl (by simp) (by decide) (by simp [partL, AO.ro, AV.ro, AV.roL, names, AO.empty, SB, U8, SI, I64, STR]) (by simp [AO.bo, AV.bo, AV.boL, names]) ?_ <;> (try simp only [List.map_cons, List.map_nil, regsL, AV.ro, AV.roL, AV.bo, AV.boL, names, get_here, get_there, Nat.reduceBEq, List.getD_cons_zero, List.getD_cons_succ, List.getD_nil, and_true, true_and, Nat.reduceLT, List.length_cons, List.length_nil, Nat.reduceAdd, decide_true, Option.isSome_some, Bool.true_or, Bool.and_self, Option.isSome_none, Bool.false_or, beq_self_eq_true, wk0_self, wk0_nils]) <;> (try and_intros) <;> (first | done | rfl | exact .inl rfl | exact .inr ⟨rfl, _, _, rfl⟩ | (simp; done) | (simp; omega) | (refine .inl ?_; simp; done) | (refine .inl ?_; simp; omega)))
  intro i hii
  unfold cc16l0
  have hn := xs_len b l i hii
  by_cases hil : i < l.length
  · have hg : l.getD i default = l[i] := by simp [hil]
    have e1 := xs_S b l i hil
    generalize xs b l i = s at hn e1
    obtain ⟨o, d⟩ := s
    simp only at hn
    unfold xsS at e1
    simp only at e1
    cases d with
    | true =>
      by_cases h1 : l[i].prio = b.prio
      · rw [if_pos h1] at e1
        simp -implicitDefEqProofs (maxSteps := 500000) (disch := first | decide | omega) only [↓preS, ↓reduceIte, allS, Nat.reduceBEq, Nat.reduceAdd, Nat.reduceEqDiff, reduceIte, Int.reduceToNat, Int.reduceLE, Int.reduceLT, Nat.reduceLeDiff, Nat.reduceMul, Nat.reducePow, Nat.reduceLT, Int.reduceBEq, Int.reduceBNe, Int.reduceAdd, Int.reduceSub, Int.reduceMul, Int.reduceGT, Int.reduceGE, decS, Int.reduceNe, Int.reduceEq, askS, askT, hg, List.append_nil]
        refine ⟨by omega, by omega, i + 1, ?_, by omega, by omega⟩
        rw [e1]
        (refine Sub.ofL [some 0, some 1] rfl (by simp) (by decide) (by simp [partL, AO.ro, AV.ro, AV.roL, names, AO.empty, SB, U8, SI, I64, STR]) (by simp [AO.bo, AV.bo, AV.boL, names]) ?_ <;> (try simp only [List.map_cons, List.map_nil, regsL, AV.ro, AV.roL, AV.bo, AV.boL, names, get_here, get_there, Nat.reduceBEq, List.getD_cons_zero, List.getD_cons_succ, List.getD_nil, and_true, true_and, Nat.reduceLT, List.length_cons, List.length_nil, Nat.reduceAdd, decide_true, Option.isSome_some, Bool.true_or, Bool.and_self, Option.isSome_none, Bool.false_or, beq_self_eq_true, wk0_self, wk0_nils]) <;> (try and_intros) <;> (first | done | rfl | exact .inl rfl | exact .inr ⟨rfl, _, _, rfl⟩ | (simp; done) | (simp; omega) | (refine .inl ?_; simp; done) | (refine .inl ?_; simp; omega)))
      · rw [if_neg h1, if_neg (by simp)] at e1
        simp -implicitDefEqProofs (maxSteps := 500000) (disch := first | decide | omega) only [↓preS, ↓reduceIte, allS, Nat.reduceBEq, Nat.reduceAdd, Nat.reduceEqDiff, reduceIte, Int.reduceToNat, Int.reduceLE, Int.reduceLT, Nat.reduceLeDiff, Nat.reduceMul, Nat.reducePow, Nat.reduceLT, Int.reduceBEq, Int.reduceBNe, Int.reduceAdd, Int.reduceSub, Int.reduceMul, Int.reduceGT, Int.reduceGE, decS, Int.reduceNe, Int.reduceEq, askS, askT, hg, List.append_nil]
        refine ⟨by omega, by omega, by omega, by omega, ⟨by omega, by omega⟩, i + 1, ?_, by omega, by omega⟩
        rw [e1]
        simp only [List.map_append, List.map_cons, List.map_nil, List.length_append, List.length_cons, List.length_nil]
        (refine Sub.ofL [some 0, some 3] rfl (by simp) (by decide) (by simp [partL, AO.ro, AV.ro, AV.roL, names, AO.empty, SB, U8, SI, I64, STR]) (by simp [AO.bo, AV.bo, AV.boL, names]) ?_ <;> (try simp only [List.map_cons, List.map_nil, regsL, AV.ro, AV.roL, AV.bo, AV.boL, names, get_here, get_there, Nat.reduceBEq, List.getD_cons_zero, List.getD_cons_succ, List.getD_nil, and_true, true_and, Nat.reduceLT, List.length_cons, List.length_nil, Nat.reduceAdd, decide_true, Option.isSome_some, Bool.true_or, Bool.and_self, Option.isSome_none, Bool.false_or, beq_self_eq_true, wk0_self, wk0_nils]) <;> (try and_intros) <;> (first | done | rfl | exact .inl rfl | exact .inr ⟨rfl, _, _, rfl⟩ | (simp; done) | (simp; omega) | (refine .inl ?_; simp; done) | (refine .inl ?_; simp; omega)))
    | false =>
      by_cases h1 : l[i].prio = b.prio
      · rw [if_pos h1] at e1
        simp -implicitDefEqProofs (maxSteps := 500000) (disch := first | decide | omega) only [↓preS, ↓reduceIte, allS, Nat.reduceBEq, Nat.reduceAdd, Nat.reduceEqDiff, reduceIte, Int.reduceToNat, Int.reduceLE, Int.reduceLT, Nat.reduceLeDiff, Nat.reduceMul, Nat.reducePow, Nat.reduceLT, Int.reduceBEq, Int.reduceBNe, Int.reduceAdd, Int.reduceSub, Int.reduceMul, Int.reduceGT, Int.reduceGE, decS, Int.reduceNe, Int.reduceEq, askS, askT, hg, List.append_nil]
        refine ⟨by omega, by omega, by omega, by omega, i + 1, ?_, by omega, by omega⟩
        rw [e1]
        (refine Sub.ofL [some 0, some 1] rfl (by simp) (by decide) (by simp [partL, AO.ro, AV.ro, AV.roL, names, AO.empty, SB, U8, SI, I64, STR]) (by simp [AO.bo, AV.bo, AV.boL, names]) ?_ <;> (try simp only [List.map_cons, List.map_nil, regsL, AV.ro, AV.roL, AV.bo, AV.boL, names, get_here, get_there, Nat.reduceBEq, List.getD_cons_zero, List.getD_cons_succ, List.getD_nil, and_true, true_and, Nat.reduceLT, List.length_cons, List.length_nil, Nat.reduceAdd, decide_true, Option.isSome_some, Bool.true_or, Bool.and_self, Option.isSome_none, Bool.false_or, beq_self_eq_true, wk0_self, wk0_nils]) <;> (try and_intros) <;> (first | done | rfl | exact .inl rfl | exact .inr ⟨rfl, _, _, rfl⟩ | (simp; done) | (simp; omega) | (refine .inl ?_; simp; done) | (refine .inl ?_; simp; omega)))
      · rw [if_neg h1] at e1
        by_cases h2 : l[i].prio > b.prio
        · rw [if_pos ⟨rfl, h2⟩] at e1
          have h3 : (o.map ASK ++ [ASK b]).take (o.length + 1) = o.map ASK ++ [ASK b] := List.take_of_length_le (by simp)
          simp -implicitDefEqProofs (maxSteps := 500000) (disch := first | decide | omega) only [↓preS, ↓reduceIte, allS, Nat.reduceBEq, Nat.reduceAdd, Nat.reduceEqDiff, reduceIte, Int.reduceToNat, Int.reduceLE, Int.reduceLT, Nat.reduceLeDiff, Nat.reduceMul, Nat.reducePow, Nat.reduceLT, Int.reduceBEq, Int.reduceBNe, Int.reduceAdd, Int.reduceSub, Int.reduceMul, Int.reduceGT, Int.reduceGE, decS, Int.reduceNe, Int.reduceEq, askS, askT, hg, List.append_nil, h3]
          refine ⟨by omega, by omega, ⟨by omega, by omega⟩, by omega, by omega, by omega, by omega, ⟨by omega, by omega⟩, i + 1, ?_, by omega, by omega⟩
          rw [e1]
          simp only [List.map_append, List.map_cons, List.map_nil, List.length_append, List.length_cons, List.length_nil]
          (refine Sub.ofL [some 0, some 5] rfl (by simp) (by decide) (by simp [partL, AO.ro, AV.ro, AV.roL, names, AO.empty, SB, U8, SI, I64, STR]) (by simp [AO.bo, AV.bo, AV.boL, names]) ?_ <;> (try simp only [List.map_cons, List.map_nil, regsL, AV.ro, AV.roL, AV.bo, AV.boL, names, get_here, get_there, Nat.reduceBEq, List.getD_cons_zero, List.getD_cons_succ, List.getD_nil, and_true, true_and, Nat.reduceLT, List.length_cons, List.length_nil, Nat.reduceAdd, decide_true, Option.isSome_some, Bool.true_or, Bool.and_self, Option.isSome_none, Bool.false_or, beq_self_eq_true, wk0_self, wk0_nils]) <;> (try and_intros) <;> (first | done | rfl | exact .inl rfl | exact .inr ⟨rfl, _, _, rfl⟩ | (simp; done) | (simp; omega) | (refine .inl ?_; simp; done) | (refine .inl ?_; simp; omega)))
        · rw [if_neg (fun h => h2 h.2)] at e1
          simp -implicitDefEqProofs (maxSteps := 500000) (disch := first | decide | omega) only [↓preS, ↓reduceIte, allS, Nat.reduceBEq, Nat.reduceAdd, Nat.reduceEqDiff, reduceIte, Int.reduceToNat, Int.reduceLE, Int.reduceLT, Nat.reduceLeDiff, Nat.reduceMul, Nat.reducePow, Nat.reduceLT, Int.reduceBEq, Int.reduceBNe, Int.reduceAdd, Int.reduceSub, Int.reduceMul, Int.reduceGT, Int.reduceGE, decS, Int.reduceNe, Int.reduceEq, askS, askT, hg, List.append_nil]
          refine ⟨by omega, by omega, by omega, by omega, by omega, by omega, ⟨by omega, by omega⟩, i + 1, ?_, by omega, by omega⟩
          rw [e1]
          simp only [List.map_append, List.map_cons, List.map_nil, List.length_append, List.length_cons, List.length_nil]
          (refine Sub.ofL [some 0, some 3] rfl (by simp) (by decide) (by simp [partL, AO.ro, AV.ro, AV.roL, names, AO.empty, SB, U8, SI, I64, STR]) (by simp [AO.bo, AV.bo, AV.boL, names]) ?_ <;> (try simp only [List.map_cons, List.map_nil, regsL, AV.ro, AV.roL, AV.bo, AV.boL, names, get_here, get_there, Nat.reduceBEq, List.getD_cons_zero, List.getD_cons_succ, List.getD_nil, and_true, true_and, Nat.reduceLT, List.length_cons, List.length_nil, Nat.reduceAdd, decide_true, Option.isSome_some, Bool.true_or, Bool.and_self, Option.isSome_none, Bool.false_or, beq_self_eq_true, wk0_self, wk0_nils]) <;> (try and_intros) <;> (first | done | rfl | exact .inl rfl | exact .inr ⟨rfl, _, _, rfl⟩ | (simp; done) | (simp; omega) | (refine .inl ?_; simp; done) | (refine .inl ?_; simp; omega)))
  · have : i = l.length := by omega
    subst this
    have e := xs_set a l h8
    rw [hb] at e
    generalize xs b l l.length = s at hn e
    obtain ⟨o, d⟩ := s
    simp only at hn e
    rw [e]
    cases d with
    | true =>
      simp only [if_true]
      by_cases h9 : o.length > 8
      · rw [if_pos h9]
        simp -implicitDefEqProofs (maxSteps := 500000) (disch := first | decide | omega) only [↓preS, ↓reduceIte, allS, Nat.reduceBEq, Nat.reduceAdd, Nat.reduceEqDiff, reduceIte, Int.reduceToNat, Int.reduceLE, Int.reduceLT, Nat.reduceLeDiff, Nat.reduceMul, Nat.reducePow, Nat.reduceLT, Int.reduceBEq, Int.reduceBNe, Int.reduceAdd, Int.reduceSub, Int.reduceMul, Int.reduceGT, Int.reduceGE, decS, Int.reduceNe, Int.reduceEq]
        exact .inr ⟨_, _, rfl, rfl, .inl (.inr ⟨rfl, _, _, rfl⟩), .inl (.inl rfl), trivial⟩
      · rw [if_neg h9]
        simp -implicitDefEqProofs (maxSteps := 500000) (disch := first | decide | omega) only [↓preS, ↓reduceIte, allS, Nat.reduceBEq, Nat.reduceAdd, Nat.reduceEqDiff, reduceIte, Int.reduceToNat, Int.reduceLE, Int.reduceLT, Nat.reduceLeDiff, Nat.reduceMul, Nat.reducePow, Nat.reduceLT, Int.reduceBEq, Int.reduceBNe, Int.reduceAdd, Int.reduceSub, Int.reduceMul, Int.reduceGT, Int.reduceGE, decS, Int.reduceNe, Int.reduceEq]
        exact .inl (.inl (.inl rfl))
    | false =>
      simp only [Bool.false_eq_true, if_false]
      have e8 : (o ++ [b]).length = o.length + 1 := by simp
      rw [e8]
      by_cases h9 : o.length + 1 > 8
      · rw [if_pos h9]
        simp -implicitDefEqProofs (maxSteps := 500000) (disch := first | decide | omega) only [↓preS, ↓reduceIte, allS, Nat.reduceBEq, Nat.reduceAdd, Nat.reduceEqDiff, reduceIte, Int.reduceToNat, Int.reduceLE, Int.reduceLT, Nat.reduceLeDiff, Nat.reduceMul, Nat.reducePow, Nat.reduceLT, Int.reduceBEq, Int.reduceBNe, Int.reduceAdd, Int.reduceSub, Int.reduceMul, Int.reduceGT, Int.reduceGE, decS, Int.reduceNe, Int.reduceEq, askS, askT, List.append_nil]
        exact ⟨⟨by omega, by omega⟩, .inr ⟨_, _, rfl, rfl, .inl (.inr ⟨rfl, _, _, rfl⟩), .inl (.inl rfl), trivial⟩⟩
      · rw [if_neg h9]
        simp -implicitDefEqProofs (maxSteps := 500000) (disch := first | decide | omega) only [↓preS, ↓reduceIte, allS, Nat.reduceBEq, Nat.reduceAdd, Nat.reduceEqDiff, reduceIte, Int.reduceToNat, Int.reduceLE, Int.reduceLT, Nat.reduceLeDiff, Nat.reduceMul, Nat.reducePow, Nat.reduceLT, Int.reduceBEq, Int.reduceBNe, Int.reduceAdd, Int.reduceSub, Int.reduceMul, Int.reduceGT, Int.reduceGE, decS, Int.reduceNe, Int.reduceEq, askS, askT, List.append_nil]
        refine ⟨⟨by omega, by omega⟩, .inl (.inl (.inl ?_))⟩
        rw [List.take_of_length_le (by simp)]
        unfold setR
        rw [List.map_append]
        rfl
end Go.Proofs.Ytglimfdofgadjaa
