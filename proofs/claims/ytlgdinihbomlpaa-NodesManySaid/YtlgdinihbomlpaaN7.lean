/- What functions of the program compute. No condition. -/
import Derived.Test.YtlgdinihbomlpaaN6
import Derived.Test.YtlgdinihbomlpaaL4
set_option linter.unusedSimpArgs false
set_option linter.unusedVariables false
namespace Go.Proofs.Ytlgdinihbomlpaa
open Go Go.Ab

theorem seq_vec {ng : Bool} {a b c d : Int} {K : AV → Prop} : seqK ng [.int .i64 0, .int .i64 0] (.agg [.int .i64 a, .int .i64 b]) (.agg [.int .i64 c, .int .i64 d]) K = K (.bool (if ng then !((a, b) == (c, d)) else (a, b) == (c, d))) := by
  have e : scEqs [.int .i64 0, .int .i64 0] [.int .i64 a, .int .i64 b] [.int .i64 c, .int .i64 d] = some ((a, b) == (c, d)) := by
    simp only [scEqs, scEq]
    simp [BEq.beq, instBEqOfDecidableEq]
  show (∃ x, scEqs [.int .i64 0, .int .i64 0] [.int .i64 a, .int .i64 b] [.int .i64 c, .int .i64 d] = some x ∧ K (.bool (if ng then !x else x))) = _
  rw [e]
  simp
theorem seq_node {ng : Bool} {a b : Node} {K : AV → Prop} : seqK ng [.int .i64 0, .int .i64 0, .int .i64 0, .int .i64 0, .int .i64 0, .int .i64 0, .int .i64 0, .bool false] (NODE a) (NODE b) K = K (.bool (if ng then !(a == b) else a == b)) := by
  have e : scEqs [.int .i64 0, .int .i64 0, .int .i64 0, .int .i64 0, .int .i64 0, .int .i64 0, .int .i64 0, .bool false] (nodeC a) (nodeC b) = some (a == b) := by
    simp only [nodeC, scEqs, scEq]
    cases a; cases b
    simp [BEq.beq, instBEqOfDecidableEq]
    try (rename_i u v; cases u <;> cases v <;> simp)
  show (∃ x, scEqs _ (nodeC a) (nodeC b) = some x ∧ K (.bool (if ng then !x else x))) = _
  rw [e]
  simp
theorem idx_one {n : Node} {id : Int} (h : n.id = id) : idxI (idP id) [n] = ((0 : Nat) : Int) := by simp [idxI, idP, h]
theorem idx_none1 {n : Node} {id : Int} (h : n.id ≠ id) : idxI (idP id) [n] = -1 := by simp [idxI, idP, h]
theorem bor_l {H : List AO} {i2 : Nat} {qs : List Queue} {l : List Node} {now : Int} (h2 : H[i2]? = some (.arr 8 (l.map NODE))) :
    Vw true H (.agg (stC (.sl false 3 (qs.map QUE)) (.own i2 8 0 l.length) now)) (.agg (stC (.sl false 3 (qs.map QUE)) (.sl true 8 (l.map NODE)) now)) := by
  have e : bor H (.agg (stC (.sl false 3 (qs.map QUE)) (.own i2 8 0 l.length) now)) = .agg (stC (.sl false 3 (qs.map QUE)) (.sl true 8 (l.map NODE)) now) := by
    simp [bor, bor1, stC, rdS, h2, List.take_of_length_le]
  have := Vw.bor (H := H) (a := .agg (stC (.sl false 3 (qs.map QUE)) (.own i2 8 0 l.length) now)) (by rw [e]; rfl)
  rwa [e] at this
set_option maxRecDepth 20000 in
set_option maxHeartbeats 4000000 in
theorem known_ok : PCall Try.prog 7 [] (.bool true) := by
  unfold PCall
  refine acall_of is7 (by simp) ?_
  unfold cc7
  simp -implicitDefEqProofs (maxSteps := 500000) (disch := first | decide | omega) only [↓preS, ↓reduceIte, allS, Nat.reduceBEq, Nat.reduceAdd, Nat.reduceEqDiff, reduceIte, Int.reduceToNat, Int.reduceLE, Int.reduceLT, Nat.reduceLeDiff, Nat.reduceMul, Nat.reducePow, Nat.reduceLT, Int.reduceBEq, Int.reduceBNe, Int.reduceAdd, Int.reduceSub, Int.reduceMul, Int.reduceGT, Int.reduceGE, decS, Int.reduceNe, Int.reduceEq]
  refine acK_of (FCall.of (lent := false) (new_ok) (.refl rfl) rfl (by simp)) ?_
  unfold stC
  simp -implicitDefEqProofs (maxSteps := 500000) (disch := first | decide | omega) only [↓preS, ↓reduceIte, allS, Nat.reduceBEq, Nat.reduceAdd, Nat.reduceEqDiff, reduceIte, Int.reduceToNat, Int.reduceLE, Int.reduceLT, Nat.reduceLeDiff, Nat.reduceMul, Nat.reducePow, Nat.reduceLT, Int.reduceBEq, Int.reduceBNe, Int.reduceAdd, Int.reduceSub, Int.reduceMul, Int.reduceGT, Int.reduceGE, decS, Int.reduceNe, Int.reduceEq, fillOk, fillAV, List.append_nil]
  have r := reg_nil false [q0] qC0 0 ⟨3, 0, 0, 8, 4, 0, 0, false⟩ ⟨by decide, by decide, rfl, by decide, by decide, by decide, by decide, by decide, by decide⟩
  refine acK_of (FCall.of (lent := false) (r) (.refl rfl) rfl (by simp)) ?_
  unfold stC
  simp -implicitDefEqProofs (maxSteps := 500000) (disch := first | decide | omega) only [↓preS, ↓reduceIte, allS, Nat.reduceBEq, Nat.reduceAdd, Nat.reduceEqDiff, reduceIte, Int.reduceToNat, Int.reduceLE, Int.reduceLT, Nat.reduceLeDiff, Nat.reduceMul, Nat.reducePow, Nat.reduceLT, Int.reduceBEq, Int.reduceBNe, Int.reduceAdd, Int.reduceSub, Int.reduceMul, Int.reduceGT, Int.reduceGE, decS, Int.reduceNe, Int.reduceEq, fillOk, fillAV, List.append_nil]
  generalize hm : newN 0 ⟨3, 0, 0, 8, 4, 0, 0, false⟩ = m
  have m1 : m.id = 3 := by subst hm; rfl
  have m2 : m.up = true := by subst hm; rfl
  have m3 : m.beat = 0 := by subst hm; rfl
  have m4 : m.mem = 8 := by subst hm; rfl
  have m5 : m.cores = 4 := by subst hm; rfl
  clear hm
  refine acK_of (FCall.of (lent := false) (find_ok false false [q0] [m] 0 3 (by simp) 0 (by simp) (idx_one m1)) (.refl rfl) rfl (by simp)) ?_
  simp only [List.getElem_cons_zero]
  simp -implicitDefEqProofs (maxSteps := 500000) (disch := first | decide | omega) only [↓preS, ↓reduceIte, allS, Nat.reduceBEq, Nat.reduceAdd, Nat.reduceEqDiff, reduceIte, Int.reduceToNat, Int.reduceLE, Int.reduceLT, Nat.reduceLeDiff, Nat.reduceMul, Nat.reducePow, Nat.reduceLT, Int.reduceBEq, Int.reduceBNe, Int.reduceAdd, Int.reduceSub, Int.reduceMul, Int.reduceGT, Int.reduceGE, decS, Int.reduceNe, Int.reduceEq, nodeS, m2, m3, fillOk, fillAV, List.append_nil]
  refine acK_of (FCall.of (lent := false) (free_ok false false [q0] [m] 0 3 (by simp) 0 (by simp) (idx_one m1) m2 (by simp [m4]) (by simp [m4]) (by simp [m5]) (by simp [m5])) (.refl rfl) rfl (by simp)) ?_
  simp only [List.getElem_cons_zero, m4, m5]
  unfold VEC
  simp -implicitDefEqProofs (maxSteps := 500000) (disch := first | decide | omega) only [↓preS, ↓reduceIte, allS, Nat.reduceBEq, Nat.reduceAdd, Nat.reduceEqDiff, reduceIte, Int.reduceToNat, Int.reduceLE, Int.reduceLT, Nat.reduceLeDiff, Nat.reduceMul, Nat.reducePow, Nat.reduceLT, Int.reduceBEq, Int.reduceBNe, Int.reduceAdd, Int.reduceSub, Int.reduceMul, Int.reduceGT, Int.reduceGE, decS, Int.reduceNe, Int.reduceEq, seq_vec, beq_self_eq_true, fillOk, fillAV, List.append_nil]
/-- Who is silent. -/
def silP (now : Int) (n : Node) : Bool := n.up && decide (now - n.seen ≥ 10)
set_option maxRecDepth 20000 in
set_option maxHeartbeats 4000000 in
theorem sil_ok (tq tn : Bool) (qs : List Queue) (l : List Node) (now : Int) (hl : l.length ≤ 2 ^ 40) (hn : 0 ≤ now ∧ now < 2 ^ 62) (hs : ∀ x ∈ l, -2 ^ 62 < x.seen ∧ x.seen < 2 ^ 62) : PCall Try.prog 11 [.agg (stC (.sl tq 3 (qs.map QUE)) (.sl tn 8 (l.map NODE)) now)] (.sl false 1 (((l.filter (silP now)).map Node.id).map I64)) := by
  refine PCall.wk3 (acall_of is11 (by simp) ?_)
  unfold cc11 stC
  simp -implicitDefEqProofs (maxSteps := 500000) (disch := first | decide | omega) only [↓preS, ↓reduceIte, allS, Nat.reduceBEq, Nat.reduceAdd, Nat.reduceEqDiff, reduceIte, Int.reduceToNat, Int.reduceLE, Int.reduceLT, Nat.reduceLeDiff, Nat.reduceMul, Nat.reducePow, Nat.reduceLT, Int.reduceBEq, Int.reduceBNe, Int.reduceAdd, Int.reduceSub, Int.reduceMul, Int.reduceGT, Int.reduceGE, decS, Int.reduceNe, Int.reduceEq]
  unfold cc11L0
  simp -implicitDefEqProofs (maxSteps := 500000) (disch := first | decide | omega) only [↓preS, ↓reduceIte, allS, Nat.reduceBEq, Nat.reduceAdd, Nat.reduceEqDiff, reduceIte, Int.reduceToNat, Int.reduceLE, Int.reduceLT, Nat.reduceLeDiff, Nat.reduceMul, Nat.reducePow, Nat.reduceLT, Int.reduceBEq, Int.reduceBNe, Int.reduceAdd, Int.reduceSub, Int.reduceMul, Int.reduceGT, Int.reduceGE, decS, Int.reduceNe, Int.reduceEq]
  refine aw_loopS (σ := Nat) (fun i => ⟨[(1, .ref 0 0 0), (3, .own 1 1 0 ((l.take i).filter (silP now)).length), (7, .sl tn 8 (l.map NODE)), (8, .int .i64 (l.length : Int)), (9, .int .i64 (i : Int))], [.box [.sl false 1 [.str []], .sl tq 3 (qs.map QUE), .sl tn 8 (l.map NODE), .nils, .nils, .nils, .nils, .int .i64 now, .int .i64 0, .int .i64 0], .arr 1 ((((l.take i).filter (silP now)).map Node.id).map I64)]⟩)
    (fun i => i ≤ l.length) (fun i => l.length - i) 0 ?_ (by omega) ?_
  · simp only [List.take_zero, List.filter_nil, List.length_nil, List.map_nil]
    (refine Sub.ofL [some 0, none] rfl (by simp) (by decide) (by simp [partL, AO.ro, AV.ro, AV.roL, names, AO.empty, SB, U8, SI, I64, STR] <;> (try and_intros) <;> rfl) (by simp [AO.bo, AV.bo, AV.boL, names] <;> (try and_intros) <;> rfl) ?_ <;> (try simp only [List.map_cons, List.map_nil, regsL, AV.ro, AV.roL, AV.bo, AV.boL, names, get_here, get_there, Nat.reduceBEq, List.getD_cons_zero, List.getD_cons_succ, List.getD_nil, and_true, true_and, Nat.reduceLT, List.length_cons, List.length_nil, Nat.reduceAdd, decide_true, Option.isSome_some, Bool.true_or, Bool.and_self, Option.isSome_none, Bool.false_or, beq_self_eq_true, wk0_self, wk0_nils]) <;> (try and_intros) <;> (first | done | rfl | exact .inl rfl | exact .inr ⟨rfl, _, _, rfl⟩ | (simp; done) | (simp; omega) | (refine .inl ?_; simp; done) | (refine .inl ?_; simp; omega)))
  intro i hii
  unfold cc11l0
  have hlen : ((l.take i).filter (silP now)).length ≤ i := Nat.le_trans (List.length_filter_le _ _) (by simp; omega)
  by_cases hil : i < l.length
  · have hg : l.getD i default = l[i] := by simp [hil]
    have hx := hs _ (List.getElem_mem hil)
    have e1 : (l.take (i + 1)).filter (silP now) = (l.take i).filter (silP now) ++ (if silP now l[i] then [l[i]] else []) := by
      rw [List.take_succ_eq_append_getElem hil, List.filter_append]
      congr 1
      simp [List.filter_cons]
    have fin1 : silP now l[i] = true → l[i].up = true ∧ now - l[i].seen ≥ 10 := fun h => by simpa [silP] using h
    cases hp : silP now l[i]
    · rw [hp] at e1
      simp only [Bool.false_eq_true, if_false, List.append_nil] at e1
      by_cases hu : l[i].up = true
      · have hd : ¬ (now - l[i].seen ≥ 10) := by simpa [silP, hu] using hp
        simp -implicitDefEqProofs (maxSteps := 500000) (disch := first | decide | omega) only [↓preS, ↓reduceIte, allS, Nat.reduceBEq, Nat.reduceAdd, Nat.reduceEqDiff, reduceIte, Int.reduceToNat, Int.reduceLE, Int.reduceLT, Nat.reduceLeDiff, Nat.reduceMul, Nat.reducePow, Nat.reduceLT, Int.reduceBEq, Int.reduceBNe, Int.reduceAdd, Int.reduceSub, Int.reduceMul, Int.reduceGT, Int.reduceGE, decS, Int.reduceNe, Int.reduceEq, nodeS, hg, hu, List.append_nil]
        refine ⟨by omega, by omega, i + 1, ?_, by omega, by omega⟩
        rw [e1]
        (refine Sub.ofL [some 0, some 1] rfl (by simp) (by decide) (by simp [partL, AO.ro, AV.ro, AV.roL, names, AO.empty, SB, U8, SI, I64, STR] <;> (try and_intros) <;> rfl) (by simp [AO.bo, AV.bo, AV.boL, names] <;> (try and_intros) <;> rfl) ?_ <;> (try simp only [List.map_cons, List.map_nil, regsL, AV.ro, AV.roL, AV.bo, AV.boL, names, get_here, get_there, Nat.reduceBEq, List.getD_cons_zero, List.getD_cons_succ, List.getD_nil, and_true, true_and, Nat.reduceLT, List.length_cons, List.length_nil, Nat.reduceAdd, decide_true, Option.isSome_some, Bool.true_or, Bool.and_self, Option.isSome_none, Bool.false_or, beq_self_eq_true, wk0_self, wk0_nils]) <;> (try and_intros) <;> (first | done | rfl | exact .inl rfl | exact .inr ⟨rfl, _, _, rfl⟩ | (simp; done) | (simp; omega) | (refine .inl ?_; simp; done) | (refine .inl ?_; simp; omega)))
      · have hu : l[i].up = false := by simpa using hu
        simp -implicitDefEqProofs (maxSteps := 500000) (disch := first | decide | omega) only [↓preS, ↓reduceIte, allS, Nat.reduceBEq, Nat.reduceAdd, Nat.reduceEqDiff, reduceIte, Int.reduceToNat, Int.reduceLE, Int.reduceLT, Nat.reduceLeDiff, Nat.reduceMul, Nat.reducePow, Nat.reduceLT, Int.reduceBEq, Int.reduceBNe, Int.reduceAdd, Int.reduceSub, Int.reduceMul, Int.reduceGT, Int.reduceGE, decS, Int.reduceNe, Int.reduceEq, nodeS, hg, hu, List.append_nil]
        refine ⟨by omega, by omega, i + 1, ?_, by omega, by omega⟩
        rw [e1]
        (refine Sub.ofL [some 0, some 1] rfl (by simp) (by decide) (by simp [partL, AO.ro, AV.ro, AV.roL, names, AO.empty, SB, U8, SI, I64, STR] <;> (try and_intros) <;> rfl) (by simp [AO.bo, AV.bo, AV.boL, names] <;> (try and_intros) <;> rfl) ?_ <;> (try simp only [List.map_cons, List.map_nil, regsL, AV.ro, AV.roL, AV.bo, AV.boL, names, get_here, get_there, Nat.reduceBEq, List.getD_cons_zero, List.getD_cons_succ, List.getD_nil, and_true, true_and, Nat.reduceLT, List.length_cons, List.length_nil, Nat.reduceAdd, decide_true, Option.isSome_some, Bool.true_or, Bool.and_self, Option.isSome_none, Bool.false_or, beq_self_eq_true, wk0_self, wk0_nils]) <;> (try and_intros) <;> (first | done | rfl | exact .inl rfl | exact .inr ⟨rfl, _, _, rfl⟩ | (simp; done) | (simp; omega) | (refine .inl ?_; simp; done) | (refine .inl ?_; simp; omega)))
    · rw [hp] at e1
      simp only [if_true] at e1
      obtain ⟨hu, hd⟩ := fin1 hp
      simp -implicitDefEqProofs (maxSteps := 500000) (disch := first | decide | omega) only [↓preS, ↓reduceIte, allS, Nat.reduceBEq, Nat.reduceAdd, Nat.reduceEqDiff, reduceIte, Int.reduceToNat, Int.reduceLE, Int.reduceLT, Nat.reduceLeDiff, Nat.reduceMul, Nat.reducePow, Nat.reduceLT, Int.reduceBEq, Int.reduceBNe, Int.reduceAdd, Int.reduceSub, Int.reduceMul, Int.reduceGT, Int.reduceGE, decS, Int.reduceNe, Int.reduceEq, nodeS, hg, hu, List.append_nil]
      refine ⟨by omega, by omega, ⟨by omega, by omega⟩, i + 1, ?_, by omega, by omega⟩
      rw [e1]
      simp only [List.map_append, List.map_cons, List.map_nil, List.length_append, List.length_cons, List.length_nil]
      (refine Sub.ofL [some 0, some 4] rfl (by simp) (by decide) (by simp [partL, AO.ro, AV.ro, AV.roL, names, AO.empty, SB, U8, SI, I64, STR] <;> (try and_intros) <;> rfl) (by simp [AO.bo, AV.bo, AV.boL, names] <;> (try and_intros) <;> rfl) ?_ <;> (try simp only [List.map_cons, List.map_nil, regsL, AV.ro, AV.roL, AV.bo, AV.boL, names, get_here, get_there, Nat.reduceBEq, List.getD_cons_zero, List.getD_cons_succ, List.getD_nil, and_true, true_and, Nat.reduceLT, List.length_cons, List.length_nil, Nat.reduceAdd, decide_true, Option.isSome_some, Bool.true_or, Bool.and_self, Option.isSome_none, Bool.false_or, beq_self_eq_true, wk0_self, wk0_nils]) <;> (try and_intros) <;> (first | done | rfl | exact .inl rfl | exact .inr ⟨rfl, _, _, rfl⟩ | (simp; done) | (simp; omega) | (refine .inl ?_; simp; done) | (refine .inl ?_; simp; omega)))
  · have : i = l.length := by omega
    subst this
    rw [List.take_length]
    simp -implicitDefEqProofs (maxSteps := 500000) (disch := first | decide | omega) only [↓preS, ↓reduceIte, allS, Nat.reduceBEq, Nat.reduceAdd, Nat.reduceEqDiff, reduceIte, Int.reduceToNat, Int.reduceLE, Int.reduceLT, Nat.reduceLeDiff, Nat.reduceMul, Nat.reducePow, Nat.reduceLT, Int.reduceBEq, Int.reduceBNe, Int.reduceAdd, Int.reduceSub, Int.reduceMul, Int.reduceGT, Int.reduceGE, decS, Int.reduceNe, Int.reduceEq]
    exact .inl (.inl (.inl rfl))
set_option maxRecDepth 20000 in
set_option maxHeartbeats 4000000 in
theorem life_law (now seen : Int) (up : Bool) : ACall Try.prog 4 [.int .i64 now, .int .i64 seen, .bool up] [] fun y _ => y = .bool true := by
  refine acall_of is4 (by simp) ?_
  unfold cc4
  simp -implicitDefEqProofs (maxSteps := 500000) (disch := first | decide | omega) only [↓preS, ↓reduceIte, allS, Nat.reduceBEq, Nat.reduceAdd, Nat.reduceEqDiff, reduceIte, Int.reduceToNat, Int.reduceLE, Int.reduceLT, Nat.reduceLeDiff, Nat.reduceMul, Nat.reducePow, Nat.reduceLT, Int.reduceBEq, Int.reduceBNe, Int.reduceAdd, Int.reduceSub, Int.reduceMul, Int.reduceGT, Int.reduceGE, decS, Int.reduceNe, Int.reduceEq]
  refine acK_of (FCall.of (lent := false) (known_ok) (.refl rfl) rfl (by simp)) ?_
  simp -implicitDefEqProofs (maxSteps := 500000) (disch := first | decide | omega) only [↓preS, ↓reduceIte, allS, Nat.reduceBEq, Nat.reduceAdd, Nat.reduceEqDiff, reduceIte, Int.reduceToNat, Int.reduceLE, Int.reduceLT, Nat.reduceLeDiff, Nat.reduceMul, Nat.reducePow, Nat.reduceLT, Int.reduceBEq, Int.reduceBNe, Int.reduceAdd, Int.reduceSub, Int.reduceMul, Int.reduceGT, Int.reduceGE, decS, Int.reduceNe, Int.reduceEq]
  refine acK_of (FCall.of (lent := false) (within_ok now 1000 (by omega) (by omega)) (.refl rfl) rfl (by simp)) ?_
  have w1 := win_rng now 1000 (by omega)
  generalize win now 1000 = n at w1
  simp -implicitDefEqProofs (maxSteps := 500000) (disch := first | decide | omega) only [↓preS, ↓reduceIte, allS, Nat.reduceBEq, Nat.reduceAdd, Nat.reduceEqDiff, reduceIte, Int.reduceToNat, Int.reduceLE, Int.reduceLT, Nat.reduceLeDiff, Nat.reduceMul, Nat.reducePow, Nat.reduceLT, Int.reduceBEq, Int.reduceBNe, Int.reduceAdd, Int.reduceSub, Int.reduceMul, Int.reduceGT, Int.reduceGE, decS, Int.reduceNe, Int.reduceEq]
  refine acK_of (FCall.of (lent := false) (within_ok seen 25 (by omega) (by omega)) (.refl rfl) rfl (by simp)) ?_
  have w2 := win_rng seen 25 (by omega)
  generalize win seen 25 = b at w2
  simp -implicitDefEqProofs (maxSteps := 500000) (disch := first | decide | omega) only [↓preS, ↓reduceIte, allS, Nat.reduceBEq, Nat.reduceAdd, Nat.reduceEqDiff, reduceIte, Int.reduceToNat, Int.reduceLE, Int.reduceLT, Nat.reduceLeDiff, Nat.reduceMul, Nat.reducePow, Nat.reduceLT, Int.reduceBEq, Int.reduceBNe, Int.reduceAdd, Int.reduceSub, Int.reduceMul, Int.reduceGT, Int.reduceGE, decS, Int.reduceNe, Int.reduceEq]
  refine acK_of (FCall.of (lent := false) (new_ok) (.refl rfl) rfl (by simp)) ?_
  unfold stC
  simp -implicitDefEqProofs (maxSteps := 500000) (disch := first | decide | omega) only [↓preS, ↓reduceIte, allS, Nat.reduceBEq, Nat.reduceAdd, Nat.reduceEqDiff, reduceIte, Int.reduceToNat, Int.reduceLE, Int.reduceLT, Nat.reduceLeDiff, Nat.reduceMul, Nat.reducePow, Nat.reduceLT, Int.reduceBEq, Int.reduceBNe, Int.reduceAdd, Int.reduceSub, Int.reduceMul, Int.reduceGT, Int.reduceGE, decS, Int.reduceNe, Int.reduceEq, fillOk, fillAV, List.append_nil]
  refine acK_of (FCall.of (lent := true) (sil_ok false true [q0] [⟨4, 0, 0, 0, 0, n - b, 0, up⟩] n (by simp) ⟨by omega, by omega⟩ (by simp; omega)) (.cons (bor_l (i2 := 1) (qs := [q0]) (now := n) (l := [⟨4, 0, 0, 0, 0, n - b, 0, up⟩]) rfl) .nil) rfl (fun _ => rfl)) ?_
  have e0 : n - (n - b) = b := by omega
  cases up
  · have e : ([(⟨4, 0, 0, 0, 0, n - b, 0, false⟩ : Node)].filter (silP n)).map Node.id = [] := by simp [silP]
    rw [e]
    simp -implicitDefEqProofs (maxSteps := 500000) (disch := first | decide | omega) only [↓preS, ↓reduceIte, allS, Nat.reduceBEq, Nat.reduceAdd, Nat.reduceEqDiff, reduceIte, Int.reduceToNat, Int.reduceLE, Int.reduceLT, Nat.reduceLeDiff, Nat.reduceMul, Nat.reducePow, Nat.reduceLT, Int.reduceBEq, Int.reduceBNe, Int.reduceAdd, Int.reduceSub, Int.reduceMul, Int.reduceGT, Int.reduceGE, decS, Int.reduceNe, Int.reduceEq]
  · by_cases hb : b ≥ 10
    · have e : ([(⟨4, 0, 0, 0, 0, n - b, 0, true⟩ : Node)].filter (silP n)).map Node.id = [4] := by simp [silP, e0, hb]
      rw [e]
      simp -implicitDefEqProofs (maxSteps := 500000) (disch := first | decide | omega) only [↓preS, ↓reduceIte, allS, Nat.reduceBEq, Nat.reduceAdd, Nat.reduceEqDiff, reduceIte, Int.reduceToNat, Int.reduceLE, Int.reduceLT, Nat.reduceLeDiff, Nat.reduceMul, Nat.reducePow, Nat.reduceLT, Int.reduceBEq, Int.reduceBNe, Int.reduceAdd, Int.reduceSub, Int.reduceMul, Int.reduceGT, Int.reduceGE, decS, Int.reduceNe, Int.reduceEq, e0]
    · have e : ([(⟨4, 0, 0, 0, 0, n - b, 0, true⟩ : Node)].filter (silP n)).map Node.id = [] := by simp [silP, e0, hb]
      rw [e]
      simp -implicitDefEqProofs (maxSteps := 500000) (disch := first | decide | omega) only [↓preS, ↓reduceIte, allS, Nat.reduceBEq, Nat.reduceAdd, Nat.reduceEqDiff, reduceIte, Int.reduceToNat, Int.reduceLE, Int.reduceLT, Nat.reduceLeDiff, Nat.reduceMul, Nat.reducePow, Nat.reduceLT, Int.reduceBEq, Int.reduceBNe, Int.reduceAdd, Int.reduceSub, Int.reduceMul, Int.reduceGT, Int.reduceGE, decS, Int.reduceNe, Int.reduceEq, e0]
set_option maxRecDepth 20000 in
set_option maxHeartbeats 4000000 in
theorem stale_law (n b : Int) (hb : okI b) : ACall Try.prog 5 [.int .i64 n, .int .i64 b] [] fun y _ => y = .bool true := by
  have hb2 : b < 2 ^ 63 := by have := hb.2; simpa using this
  refine acall_of is5 (by simp) ?_
  unfold cc5
  simp -implicitDefEqProofs (maxSteps := 500000) (disch := first | decide | omega) only [↓preS, ↓reduceIte, allS, Nat.reduceBEq, Nat.reduceAdd, Nat.reduceEqDiff, reduceIte, Int.reduceToNat, Int.reduceLE, Int.reduceLT, Nat.reduceLeDiff, Nat.reduceMul, Nat.reducePow, Nat.reduceLT, Int.reduceBEq, Int.reduceBNe, Int.reduceAdd, Int.reduceSub, Int.reduceMul, Int.reduceGT, Int.reduceGE, decS, Int.reduceNe, Int.reduceEq]
  refine acK_of (FCall.of (lent := false) (known_ok) (.refl rfl) rfl (by simp)) ?_
  simp -implicitDefEqProofs (maxSteps := 500000) (disch := first | decide | omega) only [↓preS, ↓reduceIte, allS, Nat.reduceBEq, Nat.reduceAdd, Nat.reduceEqDiff, reduceIte, Int.reduceToNat, Int.reduceLE, Int.reduceLT, Nat.reduceLeDiff, Nat.reduceMul, Nat.reducePow, Nat.reduceLT, Int.reduceBEq, Int.reduceBNe, Int.reduceAdd, Int.reduceSub, Int.reduceMul, Int.reduceGT, Int.reduceGE, decS, Int.reduceNe, Int.reduceEq]
  refine acK_of (FCall.of (lent := false) (within_ok n 20 (by omega) (by omega)) (.refl rfl) rfl (by simp)) ?_
  have w1 := win_rng n 20 (by omega)
  generalize win n 20 = n at w1
  simp -implicitDefEqProofs (maxSteps := 500000) (disch := first | decide | omega) only [↓preS, ↓reduceIte, allS, Nat.reduceBEq, Nat.reduceAdd, Nat.reduceEqDiff, reduceIte, Int.reduceToNat, Int.reduceLE, Int.reduceLT, Nat.reduceLeDiff, Nat.reduceMul, Nat.reducePow, Nat.reduceLT, Int.reduceBEq, Int.reduceBNe, Int.reduceAdd, Int.reduceSub, Int.reduceMul, Int.reduceGT, Int.reduceGE, decS, Int.reduceNe, Int.reduceEq]
  refine acK_of (FCall.of (lent := false) (new_ok) (.refl rfl) rfl (by simp)) ?_
  unfold stC
  simp -implicitDefEqProofs (maxSteps := 500000) (disch := first | decide | omega) only [↓preS, ↓reduceIte, allS, Nat.reduceBEq, Nat.reduceAdd, Nat.reduceEqDiff, reduceIte, Int.reduceToNat, Int.reduceLE, Int.reduceLT, Nat.reduceLeDiff, Nat.reduceMul, Nat.reducePow, Nat.reduceLT, Int.reduceBEq, Int.reduceBNe, Int.reduceAdd, Int.reduceSub, Int.reduceMul, Int.reduceGT, Int.reduceGE, decS, Int.reduceNe, Int.reduceEq, fillOk, fillAV, List.append_nil]
  have r := reg_nil false [q0] qC0 0 ⟨1, 0, 0, 0, 0, 0, 0, false⟩ ⟨by decide, by decide, rfl, by decide, by decide, by decide, by decide, by decide, by decide⟩
  refine acK_of (FCall.of (lent := false) (r) (.refl rfl) rfl (by simp)) ?_
  have e : newN 0 ⟨1, 0, 0, 0, 0, 0, 0, false⟩ = ⟨1, 0, 0, 0, 0, 0, ((0 : Nat) : Int), true⟩ := rfl
  rw [e]
  clear r e
  unfold stC
  simp -implicitDefEqProofs (maxSteps := 500000) (disch := first | decide | omega) only [↓preS, ↓reduceIte, allS, Nat.reduceBEq, Nat.reduceAdd, Nat.reduceEqDiff, reduceIte, Int.reduceToNat, Int.reduceLE, Int.reduceLT, Nat.reduceLeDiff, Nat.reduceMul, Nat.reducePow, Nat.reduceLT, Int.reduceBEq, Int.reduceBNe, Int.reduceAdd, Int.reduceSub, Int.reduceMul, Int.reduceGT, Int.reduceGE, decS, Int.reduceNe, Int.reduceEq]
  unfold cc5L0
  simp -implicitDefEqProofs (maxSteps := 500000) (disch := first | decide | omega) only [↓preS, ↓reduceIte, allS, Nat.reduceBEq, Nat.reduceAdd, Nat.reduceEqDiff, reduceIte, Int.reduceToNat, Int.reduceLE, Int.reduceLT, Nat.reduceLeDiff, Nat.reduceMul, Nat.reducePow, Nat.reduceLT, Int.reduceBEq, Int.reduceBNe, Int.reduceAdd, Int.reduceSub, Int.reduceMul, Int.reduceGT, Int.reduceGE, decS, Int.reduceNe, Int.reduceEq]
  refine aw_loopS (σ := Nat) (fun k => ⟨[(0, .int .i64 n), (1, .int .i64 b), (5, .ref 0 0 0), (6, .int .i64 ((k : Int) + 1))], [.box [.sl false 1 [.str []], .sl false 3 ([q0].map QUE), .sl false 8 ([(⟨1, 0, 0, 0, 0, 0, (k : Int), true⟩ : Node)].map NODE), .nils, .nils, .nils, .nils, .int .i64 0, .int .i64 0, .int .i64 0]]⟩) (fun k => (k : Int) ≤ n) (fun k => n.toNat - k) 0 ?_ (by omega) ?_
  · exact .inl rfl
  intro k hk
  unfold cc5l0
  have r := fun bb hbb => beat_ok false false [q0] qC0 [⟨1, 0, 0, 0, 0, 0, (k : Int), true⟩] (by simp) (by simp) 0 1 bb 0 (by simp) (idx_one rfl) (by simp) hbb
  simp only [List.getElem_cons_zero, List.set_cons_zero] at r
  by_cases hkn : (k : Int) < n
  · simp -implicitDefEqProofs (maxSteps := 500000) (disch := first | decide | omega) only [↓preS, ↓reduceIte, allS, Nat.reduceBEq, Nat.reduceAdd, Nat.reduceEqDiff, reduceIte, Int.reduceToNat, Int.reduceLE, Int.reduceLT, Nat.reduceLeDiff, Nat.reduceMul, Nat.reducePow, Nat.reduceLT, Int.reduceBEq, Int.reduceBNe, Int.reduceAdd, Int.reduceSub, Int.reduceMul, Int.reduceGT, Int.reduceGE, decS, Int.reduceNe, Int.reduceEq]
    refine acK_of (FCall.of (lent := false) (r ((k : Int) + 1) (by omega)) (.refl rfl) rfl (by simp)) ?_
    have e : beatF 0 ((k : Int) + 1) ⟨1, 0, 0, 0, 0, 0, (k : Int), true⟩ = (⟨1, 0, 0, 0, 0, 0, ((k + 1 : Nat) : Int), true⟩, 0) := by
      have e2 : ((k + 1 : Nat) : Int) = (k : Int) + 1 := by omega
      rw [e2]
      unfold beatF
      rw [if_neg (by simp), if_neg (by simp only; omega), if_neg (by simp only; omega)]
    rw [e]
    unfold stC
    simp -implicitDefEqProofs (maxSteps := 500000) (disch := first | decide | omega) only [↓preS, ↓reduceIte, allS, Nat.reduceBEq, Nat.reduceAdd, Nat.reduceEqDiff, reduceIte, Int.reduceToNat, Int.reduceLE, Int.reduceLT, Nat.reduceLeDiff, Nat.reduceMul, Nat.reducePow, Nat.reduceLT, Int.reduceBEq, Int.reduceBNe, Int.reduceAdd, Int.reduceSub, Int.reduceMul, Int.reduceGT, Int.reduceGE, decS, Int.reduceNe, Int.reduceEq]
    refine ⟨k + 1, ?_, by omega, by omega⟩
    (refine Sub.ofL [some 0] rfl (by simp) (by decide) (by simp [partL, AO.ro, AV.ro, AV.roL, names, AO.empty, SB, U8, SI, I64, STR] <;> (try and_intros) <;> rfl) (by simp [AO.bo, AV.bo, AV.boL, names] <;> (try and_intros) <;> rfl) ?_ <;> (try simp only [List.map_cons, List.map_nil, regsL, AV.ro, AV.roL, AV.bo, AV.boL, names, get_here, get_there, Nat.reduceBEq, List.getD_cons_zero, List.getD_cons_succ, List.getD_nil, and_true, true_and, Nat.reduceLT, List.length_cons, List.length_nil, Nat.reduceAdd, decide_true, Option.isSome_some, Bool.true_or, Bool.and_self, Option.isSome_none, Bool.false_or, beq_self_eq_true, wk0_self, wk0_nils]) <;> (try and_intros) <;> (first | done | rfl | exact .inl rfl | exact .inr ⟨rfl, _, _, rfl⟩ | (simp; done) | (simp; omega) | (refine .inl ?_; simp; done) | (refine .inl ?_; simp; omega)))
  · have hkn : (k : Int) = n := by omega
    simp -implicitDefEqProofs (maxSteps := 500000) (disch := first | decide | omega) only [↓preS, ↓reduceIte, allS, Nat.reduceBEq, Nat.reduceAdd, Nat.reduceEqDiff, reduceIte, Int.reduceToNat, Int.reduceLE, Int.reduceLT, Nat.reduceLeDiff, Nat.reduceMul, Nat.reducePow, Nat.reduceLT, Int.reduceBEq, Int.reduceBNe, Int.reduceAdd, Int.reduceSub, Int.reduceMul, Int.reduceGT, Int.reduceGE, decS, Int.reduceNe, Int.reduceEq]
    refine acK_of (FCall.of (lent := false) (r b hb2) (.refl rfl) rfl (by simp)) ?_
    unfold stC
    have no := beat_no false false [q0] qC0 [⟨1, 0, 0, 0, 0, 0, (k : Int), true⟩] (by simp) (by simp) 0 2 b (idx_none1 (by simp))
    unfold beatF
    rw [if_neg (by simp)]
    simp only
    by_cases h1 : b < n
    · rw [if_pos (by omega)]
      simp -implicitDefEqProofs (maxSteps := 500000) (disch := first | decide | omega) only [↓preS, ↓reduceIte, allS, Nat.reduceBEq, Nat.reduceAdd, Nat.reduceEqDiff, reduceIte, Int.reduceToNat, Int.reduceLE, Int.reduceLT, Nat.reduceLeDiff, Nat.reduceMul, Nat.reducePow, Nat.reduceLT, Int.reduceBEq, Int.reduceBNe, Int.reduceAdd, Int.reduceSub, Int.reduceMul, Int.reduceGT, Int.reduceGE, decS, Int.reduceNe, Int.reduceEq]
      refine acK_of (FCall.of (lent := false) (no) (.refl rfl) rfl (by simp)) ?_
      unfold stC
      simp -implicitDefEqProofs (maxSteps := 500000) (disch := first | decide | omega) only [↓preS, ↓reduceIte, allS, Nat.reduceBEq, Nat.reduceAdd, Nat.reduceEqDiff, reduceIte, Int.reduceToNat, Int.reduceLE, Int.reduceLT, Nat.reduceLeDiff, Nat.reduceMul, Nat.reducePow, Nat.reduceLT, Int.reduceBEq, Int.reduceBNe, Int.reduceAdd, Int.reduceSub, Int.reduceMul, Int.reduceGT, Int.reduceGE, decS, Int.reduceNe, Int.reduceEq]
      refine acK_of (FCall.of (lent := false) (find_ok false false [q0] [⟨1, 0, 0, 0, 0, 0, (k : Int), true⟩] 0 1 (by simp) 0 (by simp) (idx_one rfl)) (.refl rfl) rfl (by simp)) ?_
      simp only [List.getElem_cons_zero]
      simp -implicitDefEqProofs (maxSteps := 500000) (disch := first | decide | omega) only [↓preS, ↓reduceIte, allS, Nat.reduceBEq, Nat.reduceAdd, Nat.reduceEqDiff, reduceIte, Int.reduceToNat, Int.reduceLE, Int.reduceLT, Nat.reduceLeDiff, Nat.reduceMul, Nat.reducePow, Nat.reduceLT, Int.reduceBEq, Int.reduceBNe, Int.reduceAdd, Int.reduceSub, Int.reduceMul, Int.reduceGT, Int.reduceGE, decS, Int.reduceNe, Int.reduceEq, nodeS, List.append_nil]
    · rw [if_neg (by omega)]
      by_cases h2 : b - n > 1
      · rw [if_pos (by omega)]
        simp -implicitDefEqProofs (maxSteps := 500000) (disch := first | decide | omega) only [↓preS, ↓reduceIte, allS, Nat.reduceBEq, Nat.reduceAdd, Nat.reduceEqDiff, reduceIte, Int.reduceToNat, Int.reduceLE, Int.reduceLT, Nat.reduceLeDiff, Nat.reduceMul, Nat.reducePow, Nat.reduceLT, Int.reduceBEq, Int.reduceBNe, Int.reduceAdd, Int.reduceSub, Int.reduceMul, Int.reduceGT, Int.reduceGE, decS, Int.reduceNe, Int.reduceEq]
        refine acK_of (FCall.of (lent := false) (no) (.refl rfl) rfl (by simp)) ?_
        unfold stC
        simp -implicitDefEqProofs (maxSteps := 500000) (disch := first | decide | omega) only [↓preS, ↓reduceIte, allS, Nat.reduceBEq, Nat.reduceAdd, Nat.reduceEqDiff, reduceIte, Int.reduceToNat, Int.reduceLE, Int.reduceLT, Nat.reduceLeDiff, Nat.reduceMul, Nat.reducePow, Nat.reduceLT, Int.reduceBEq, Int.reduceBNe, Int.reduceAdd, Int.reduceSub, Int.reduceMul, Int.reduceGT, Int.reduceGE, decS, Int.reduceNe, Int.reduceEq]
        refine acK_of (FCall.of (lent := false) (find_ok false false [q0] [⟨1, 0, 0, 0, 0, 0, (k : Int), true⟩] 0 1 (by simp) 0 (by simp) (idx_one rfl)) (.refl rfl) rfl (by simp)) ?_
        simp only [List.getElem_cons_zero]
        simp -implicitDefEqProofs (maxSteps := 500000) (disch := first | decide | omega) only [↓preS, ↓reduceIte, allS, Nat.reduceBEq, Nat.reduceAdd, Nat.reduceEqDiff, reduceIte, Int.reduceToNat, Int.reduceLE, Int.reduceLT, Nat.reduceLeDiff, Nat.reduceMul, Nat.reducePow, Nat.reduceLT, Int.reduceBEq, Int.reduceBNe, Int.reduceAdd, Int.reduceSub, Int.reduceMul, Int.reduceGT, Int.reduceGE, decS, Int.reduceNe, Int.reduceEq, nodeS, List.append_nil]
      · rw [if_neg (by omega)]
        have hor : b = n ∨ (b > n ∧ ¬ b = n) := by omega
        rcases hor with h3 | h3
        · simp -implicitDefEqProofs (maxSteps := 500000) (disch := first | decide | omega) only [↓preS, ↓reduceIte, allS, Nat.reduceBEq, Nat.reduceAdd, Nat.reduceEqDiff, reduceIte, Int.reduceToNat, Int.reduceLE, Int.reduceLT, Nat.reduceLeDiff, Nat.reduceMul, Nat.reducePow, Nat.reduceLT, Int.reduceBEq, Int.reduceBNe, Int.reduceAdd, Int.reduceSub, Int.reduceMul, Int.reduceGT, Int.reduceGE, decS, Int.reduceNe, Int.reduceEq]
          refine acK_of (FCall.of (lent := false) (no) (.refl rfl) rfl (by simp)) ?_
          unfold stC
          simp -implicitDefEqProofs (maxSteps := 500000) (disch := first | decide | omega) only [↓preS, ↓reduceIte, allS, Nat.reduceBEq, Nat.reduceAdd, Nat.reduceEqDiff, reduceIte, Int.reduceToNat, Int.reduceLE, Int.reduceLT, Nat.reduceLeDiff, Nat.reduceMul, Nat.reducePow, Nat.reduceLT, Int.reduceBEq, Int.reduceBNe, Int.reduceAdd, Int.reduceSub, Int.reduceMul, Int.reduceGT, Int.reduceGE, decS, Int.reduceNe, Int.reduceEq]
          refine acK_of (FCall.of (lent := false) (find_ok false false [q0] [⟨1, 0, 0, 0, 0, 0, b, true⟩] 0 1 (by simp) 0 (by simp) (idx_one rfl)) (.refl rfl) rfl (by simp)) ?_
          simp only [List.getElem_cons_zero]
          simp -implicitDefEqProofs (maxSteps := 500000) (disch := first | decide | omega) only [↓preS, ↓reduceIte, allS, Nat.reduceBEq, Nat.reduceAdd, Nat.reduceEqDiff, reduceIte, Int.reduceToNat, Int.reduceLE, Int.reduceLT, Nat.reduceLeDiff, Nat.reduceMul, Nat.reducePow, Nat.reduceLT, Int.reduceBEq, Int.reduceBNe, Int.reduceAdd, Int.reduceSub, Int.reduceMul, Int.reduceGT, Int.reduceGE, decS, Int.reduceNe, Int.reduceEq, nodeS, List.append_nil]
        · simp -implicitDefEqProofs (maxSteps := 500000) (disch := first | decide | omega) only [↓preS, ↓reduceIte, allS, Nat.reduceBEq, Nat.reduceAdd, Nat.reduceEqDiff, reduceIte, Int.reduceToNat, Int.reduceLE, Int.reduceLT, Nat.reduceLeDiff, Nat.reduceMul, Nat.reducePow, Nat.reduceLT, Int.reduceBEq, Int.reduceBNe, Int.reduceAdd, Int.reduceSub, Int.reduceMul, Int.reduceGT, Int.reduceGE, decS, Int.reduceNe, Int.reduceEq]
          refine acK_of (FCall.of (lent := false) (no) (.refl rfl) rfl (by simp)) ?_
          unfold stC
          simp -implicitDefEqProofs (maxSteps := 500000) (disch := first | decide | omega) only [↓preS, ↓reduceIte, allS, Nat.reduceBEq, Nat.reduceAdd, Nat.reduceEqDiff, reduceIte, Int.reduceToNat, Int.reduceLE, Int.reduceLT, Nat.reduceLeDiff, Nat.reduceMul, Nat.reducePow, Nat.reduceLT, Int.reduceBEq, Int.reduceBNe, Int.reduceAdd, Int.reduceSub, Int.reduceMul, Int.reduceGT, Int.reduceGE, decS, Int.reduceNe, Int.reduceEq]
          refine acK_of (FCall.of (lent := false) (find_ok false false [q0] [⟨1, 0, 0, 0, 0, 0, b, true⟩] 0 1 (by simp) 0 (by simp) (idx_one rfl)) (.refl rfl) rfl (by simp)) ?_
          simp only [List.getElem_cons_zero]
          simp -implicitDefEqProofs (maxSteps := 500000) (disch := first | decide | omega) only [↓preS, ↓reduceIte, allS, Nat.reduceBEq, Nat.reduceAdd, Nat.reduceEqDiff, reduceIte, Int.reduceToNat, Int.reduceLE, Int.reduceLT, Nat.reduceLeDiff, Nat.reduceMul, Nat.reducePow, Nat.reduceLT, Int.reduceBEq, Int.reduceBNe, Int.reduceAdd, Int.reduceSub, Int.reduceMul, Int.reduceGT, Int.reduceGE, decS, Int.reduceNe, Int.reduceEq, nodeS, List.append_nil]
end Go.Proofs.Ytlgdinihbomlpaa
