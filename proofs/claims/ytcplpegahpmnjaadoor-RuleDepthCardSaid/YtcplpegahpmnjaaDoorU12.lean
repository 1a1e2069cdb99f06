/- What functions of the program compute. No condition. -/
import Derived.Test.YtcplpegahpmnjaaDoorU11
set_option linter.unusedSimpArgs false
set_option linter.unusedVariables false
namespace Go.Proofs.YtcplpegahpmnjaaDoor
open Go Go.Ab

/-! ### RuleDepth -/
def splitN : Nat → List UInt8 → List (List UInt8)
  | 0, s => [s]
  | n + 1, s => if Lib.indexByte s 46 < 0 then [s] else s.take (Lib.indexByte s 46).toNat :: splitN n (s.drop ((Lib.indexByte s 46).toNat + 1))
theorem splitN_eq : ∀ (n : Nat) (s : List UInt8), s.length ≤ n → splitL s = splitN n s
  | 0, s, h => by
    have : s = [] := List.length_eq_zero_iff.1 (by omega)
    subst this
    rw [splitL_end rfl]
    rfl
  | n + 1, s, h => by
    rcases ib_cases 46 s with ⟨h1, h2⟩ | ⟨i, h1, h2, h3⟩
    · rw [splitL_end h1, splitN, h2, if_pos (by decide)]
    · rw [splitL_go h2, splitN, h2, if_neg (by omega), splitN_eq n _ (by simp; omega)]
      rfl
def isPathN (s : List UInt8) : Bool := (splitN s.length s).headD [] == rootS && decide ((splitN s.length s).length ≤ 4) && !(splitN s.length s).any fun x => !nameP x
theorem isPathN_eq (s : List UInt8) : isPathP s = isPathN s := by
  unfold isPathP isPathN
  rw [splitN_eq s.length s (Nat.le_refl _)]
def queuesN (nl : Nat) : Bool → List UInt8 → Cnt → List Queue → Int
  | _, _, _, [] => 0
  | fst, last, es, q :: r =>
    if isPathN q.path = false then 12
    else if (!fst && (Op.bytesLess q.path last || q.path == last)) = true then 7
    else if ((aboveP q.path).2 && decide (cntE (aboveP q.path).1 es = 0)) = true then 12
    else if (decide (q.user < 1) || decide (q.user > 1000000) || decide (q.caps.length ≠ nl) || !capsP q.caps) = true then 1
    else queuesN nl false q.path (incE q.path es) r
theorem queuesN_eq (nl : Nat) : ∀ (qs : List Queue) (fst : Bool) (last : List UInt8) (es : Cnt), queuesP nl fst last es qs = queuesN nl fst last es qs
  | [], _, _, _ => rfl
  | q :: r, fst, last, es => by rw [queuesP, queuesN, isPathN_eq, queuesN_eq nl r]
def checkN (nl : Nat) (qs : List Queue) : Int := if queuesN nl true [] [] qs ≠ 0 then queuesN nl true [] [] qs else sumsP nl qs
def pD : Nat → List UInt8
  | 0 => rootS
  | k + 1 => pD k ++ [46, 113]
def mkQ (k : Nat) : Queue := ⟨pD k, [⟨10000, 10000⟩], 1⟩
def qsD (gap n : Nat) : List Queue := ((List.range n).filter fun k => k != gap || k == 0).map mkQ
theorem qsD_snoc (gap k : Nat) : qsD gap (k + 1) = qsD gap k ++ (if k = gap ∧ k ≠ 0 then [] else [mkQ k]) := by
  unfold qsD
  rw [List.range_succ, List.filter_append, List.map_append]
  congr 1
  by_cases h : k = gap <;> by_cases h2 : k = 0 <;> simp [List.filter_cons, h, h2] <;> (try (subst h; simp [h2]))
def wantD (n gap : Nat) : Int := if gap > 0 ∧ gap < n - 1 ∨ n > 4 ∧ gap ≠ 4 then 12 else 0
set_option maxRecDepth 100000 in
theorem depth_all : ∀ n, n < 5 → ∀ gap, gap < 6 → checkN 1 (qsD gap (n + 1)) = wantD (n + 1) gap ∧ (qsD gap (n + 1)).length ≤ 5 ∧ ((qsD gap (n + 1)).getD 0 default).path = rootS ∧ (qsD gap (n + 1)).isEmpty = false := by decide +kernel
theorem bor_conf {H : List AO} {i n : Nat} {ls : List (List UInt8)} {qs : List Queue} (h : H[i]? = some (.arr 3 (qs.map QUE))) (hn : n = qs.length) :
    Vw true H (.agg [.sl false 1 (ls.map AV.str), .own i 3 0 n]) (CONF false true ls qs) := by
  subst hn
  have e : bor H (.agg [.sl false 1 (ls.map AV.str), .own i 3 0 qs.length]) = CONF false true ls qs := by
    simp [bor, bor1, CONF, rdS, h, List.take_of_length_le]
  have := Vw.bor (H := H) (a := .agg [.sl false 1 (ls.map AV.str), .own i 3 0 qs.length]) (by rw [e]; rfl)
  rwa [e] at this
theorem lab1 : LabOk [[]] := ⟨rfl, by simp, by simp, by simp, by simp⟩
theorem pD_len : ∀ k, (pD k).length = 4 + 2 * k
  | 0 => rfl
  | k + 1 => by
    have := pD_len k
    simp [pD, this]
    omega
theorem qsD_mem {gap n : Nat} (hn : n ≤ 5) : ∀ q ∈ qsD gap n, QSum 1 q := by
  intro q hq
  unfold qsD at hq
  obtain ⟨k, hk, rfl⟩ := List.mem_map.1 hq
  have hk2 := List.mem_range.1 (List.mem_filter.1 hk).1
  exact ⟨⟨by have := pD_len k; simp [mkQ, this]; omega, by simp [mkQ], by simp [mkQ]⟩, rfl, by simp [mkQ]⟩
set_option maxHeartbeats 8000000 in
theorem depth_law (n0 gap0 : Int) : ACall Tryd.prog 5 [.int .i64 n0, .int .i64 gap0] [] fun y _ => y = .bool true := by
  refine acall_of is5 (by simp) ?_
  unfold cc5
  simp -implicitDefEqProofs (maxSteps := 500000) (disch := first | decide | omega) only [↓preS, ↓reduceIte, allS, Nat.reduceBEq, Nat.reduceAdd, Nat.reduceEqDiff, reduceIte, Int.reduceToNat, Int.reduceLE, Int.reduceLT, Nat.reduceLeDiff, Nat.reduceMul, Nat.reducePow, Nat.reduceLT, Int.reduceBEq, Int.reduceBNe, Int.reduceAdd, Int.reduceSub, Int.reduceMul, Int.reduceGT, Int.reduceGE, decS, Int.reduceNe, Int.reduceEq]
  refine acK_of (FCall.of (lent := false) (known_ok) (.refl rfl) rfl (by simp)) ?_
  simp -implicitDefEqProofs (maxSteps := 500000) (disch := first | decide | omega) only [↓preS, ↓reduceIte, allS, Nat.reduceBEq, Nat.reduceAdd, Nat.reduceEqDiff, reduceIte, Int.reduceToNat, Int.reduceLE, Int.reduceLT, Nat.reduceLeDiff, Nat.reduceMul, Nat.reducePow, Nat.reduceLT, Int.reduceBEq, Int.reduceBNe, Int.reduceAdd, Int.reduceSub, Int.reduceMul, Int.reduceGT, Int.reduceGE, decS, Int.reduceNe, Int.reduceEq]
  have w1 := win_rng n0 5 (by omega)
  refine acK_of (FCall.of (lent := false) (within_ok n0 5 (by omega) (by omega)) (.refl rfl) rfl (by simp)) ?_
  generalize win n0 5 = n1 at w1
  obtain ⟨n, rfl⟩ : ∃ n : Nat, n1 = (n : Int) := ⟨n1.toNat, by omega⟩
  simp -implicitDefEqProofs (maxSteps := 500000) (disch := first | decide | omega) only [↓preS, ↓reduceIte, allS, Nat.reduceBEq, Nat.reduceAdd, Nat.reduceEqDiff, reduceIte, Int.reduceToNat, Int.reduceLE, Int.reduceLT, Nat.reduceLeDiff, Nat.reduceMul, Nat.reducePow, Nat.reduceLT, Int.reduceBEq, Int.reduceBNe, Int.reduceAdd, Int.reduceSub, Int.reduceMul, Int.reduceGT, Int.reduceGE, decS, Int.reduceNe, Int.reduceEq]
  have w2 := win_rng gap0 6 (by omega)
  refine acK_of (FCall.of (lent := false) (within_ok gap0 6 (by omega) (by omega)) (.refl rfl) rfl (by simp)) ?_
  generalize win gap0 6 = g1 at w2
  obtain ⟨gap, rfl⟩ : ∃ n : Nat, g1 = (n : Int) := ⟨g1.toNat, by omega⟩
  obtain ⟨a1, a2, a3, a4⟩ := depth_all n (by omega) gap (by omega)
  simp -implicitDefEqProofs (maxSteps := 500000) (disch := first | decide | omega) only [↓preS, ↓reduceIte, allS, Nat.reduceBEq, Nat.reduceAdd, Nat.reduceEqDiff, reduceIte, Int.reduceToNat, Int.reduceLE, Int.reduceLT, Nat.reduceLeDiff, Nat.reduceMul, Nat.reducePow, Nat.reduceLT, Int.reduceBEq, Int.reduceBNe, Int.reduceAdd, Int.reduceSub, Int.reduceMul, Int.reduceGT, Int.reduceGE, decS, Int.reduceNe, Int.reduceEq, fillOk, fillAV, List.append_nil]
  unfold cc5L0
  simp -implicitDefEqProofs (maxSteps := 500000) (disch := first | decide | omega) only [↓preS, ↓reduceIte, allS, Nat.reduceBEq, Nat.reduceAdd, Nat.reduceEqDiff, reduceIte, Int.reduceToNat, Int.reduceLE, Int.reduceLT, Nat.reduceLeDiff, Nat.reduceMul, Nat.reducePow, Nat.reduceLT, Int.reduceBEq, Int.reduceBNe, Int.reduceAdd, Int.reduceSub, Int.reduceMul, Int.reduceGT, Int.reduceGE, decS, Int.reduceNe, Int.reduceEq]
  refine aw_loopS (σ := Nat) (fun k => ⟨[(0, .int .i64 (1 + (n : Int))), (1, .int .i64 (gap : Int)), (5, .ref 0 0 0), (6, .str (pD k)), (7, .int .i64 (k : Int))], [.box [.sl false 1 [.str []], .own 1 3 0 (qsD gap k).length], .arr 3 ((qsD gap k).map QUE)]⟩)
    (fun k => k ≤ n + 1) (fun k => n + 1 - k) 0 ?_ (by omega) ?_
  · have e : qsD gap 0 = [] := rfl
    simp only [e, List.length_nil, List.map_nil]
    (refine Sub.ofL [some 1, none] rfl (by simp) (by decide) (by simp [partL, AO.ro, AV.ro, AV.roL, names, AO.empty, SB, U8, SI, I64, STR] <;> (try and_intros) <;> rfl) (by simp [AO.bo, AV.bo, AV.boL, names] <;> (try and_intros) <;> rfl) ?_ <;> (try simp only [List.map_cons, List.map_nil, regsL, AV.ro, AV.roL, AV.bo, AV.boL, names, get_here, get_there, Nat.reduceBEq, List.getD_cons_zero, List.getD_cons_succ, List.getD_nil, and_true, true_and, Nat.reduceLT, List.length_cons, List.length_nil, Nat.reduceAdd, decide_true, Option.isSome_some, Bool.true_or, Bool.and_self, Option.isSome_none, Bool.false_or, beq_self_eq_true, wk0_self, wk0_nils]) <;> (try and_intros) <;> (first | done | rfl | exact .inl rfl | exact .inr ⟨rfl, _, _, rfl⟩ | (simp; done) | (simp; omega) | (refine .inl ?_; simp; done) | (refine .inl ?_; simp; omega)))
  intro k hk
  have hpl := pD_len k
  unfold cc5l0
  by_cases hkn : k < n + 1
  · have hq := qsD_snoc gap k
    have hlen : (qsD gap k).length ≤ k := by
      unfold qsD
      rw [List.length_map]
      exact Nat.le_trans (List.length_filter_le _ _) (by simp)
    by_cases h1 : k = gap ∧ k ≠ 0
    · obtain ⟨rfl, h2⟩ := h1
      rw [if_pos ⟨rfl, h2⟩, List.append_nil] at hq
      simp -implicitDefEqProofs (maxSteps := 500000) (disch := first | decide | omega) only [↓preS, ↓reduceIte, allS, Nat.reduceBEq, Nat.reduceAdd, Nat.reduceEqDiff, reduceIte, Int.reduceToNat, Int.reduceLE, Int.reduceLT, Nat.reduceLeDiff, Nat.reduceMul, Nat.reducePow, Nat.reduceLT, Int.reduceBEq, Int.reduceBNe, Int.reduceAdd, Int.reduceSub, Int.reduceMul, Int.reduceGT, Int.reduceGE, decS, Int.reduceNe, Int.reduceEq]
      have e2 : ((2 : Nat) : Int) = 2 := rfl
      refine ⟨by omega, k + 1, ?_, by omega, by omega⟩
      rw [hq]
      (refine Sub.ofL [some 0, some 1] rfl (by simp) (by decide) (by simp [partL, AO.ro, AV.ro, AV.roL, names, AO.empty, SB, U8, SI, I64, STR] <;> (try and_intros) <;> rfl) (by simp [AO.bo, AV.bo, AV.boL, names] <;> (try and_intros) <;> rfl) ?_ <;> (try simp only [List.map_cons, List.map_nil, regsL, AV.ro, AV.roL, AV.bo, AV.boL, names, get_here, get_there, Nat.reduceBEq, List.getD_cons_zero, List.getD_cons_succ, List.getD_nil, and_true, true_and, Nat.reduceLT, List.length_cons, List.length_nil, Nat.reduceAdd, decide_true, Option.isSome_some, Bool.true_or, Bool.and_self, Option.isSome_none, Bool.false_or, beq_self_eq_true, wk0_self, wk0_nils]) <;> (try and_intros) <;> (first | done | rfl | exact .inl rfl | exact .inr ⟨rfl, _, _, rfl⟩ | (simp; done) | (simp; omega) | (refine .inl ?_; simp; done) | (refine .inl ?_; simp; omega)))
    · rw [if_neg h1] at hq
      by_cases h2 : k = gap
      · have h3 : k = 0 := by omega
        subst h3
        subst h2
        simp -implicitDefEqProofs (maxSteps := 500000) (disch := first | decide | omega) only [↓preS, ↓reduceIte, allS, Nat.reduceBEq, Nat.reduceAdd, Nat.reduceEqDiff, reduceIte, Int.reduceToNat, Int.reduceLE, Int.reduceLT, Nat.reduceLeDiff, Nat.reduceMul, Nat.reducePow, Nat.reduceLT, Int.reduceBEq, Int.reduceBNe, Int.reduceAdd, Int.reduceSub, Int.reduceMul, Int.reduceGT, Int.reduceGE, decS, Int.reduceNe, Int.reduceEq, fillOk, fillAV, List.append_nil]
        refine ⟨⟨by omega, by omega⟩, by simp [pD, rootS], 1, ?_, by omega, by omega⟩
        rw [show (1 : Nat) = 0 + 1 from rfl, hq]
        simp only [List.map_append, List.map_cons, List.map_nil, List.length_append, List.length_cons, List.length_nil]
        (refine Sub.ofL [some 0, some 4] rfl (by simp) (by decide) (by simp [partL, AO.ro, AV.ro, AV.roL, names, AO.empty, SB, U8, SI, I64, STR] <;> (try and_intros) <;> rfl) (by simp [AO.bo, AV.bo, AV.boL, names] <;> (try and_intros) <;> rfl) ?_ <;> (try simp only [List.map_cons, List.map_nil, regsL, AV.ro, AV.roL, AV.bo, AV.boL, names, get_here, get_there, Nat.reduceBEq, List.getD_cons_zero, List.getD_cons_succ, List.getD_nil, and_true, true_and, Nat.reduceLT, List.length_cons, List.length_nil, Nat.reduceAdd, decide_true, Option.isSome_some, Bool.true_or, Bool.and_self, Option.isSome_none, Bool.false_or, beq_self_eq_true, wk0_self, wk0_nils]) <;> (try and_intros) <;> (first | done | rfl | exact .inl rfl | exact .inr ⟨rfl, _, _, rfl⟩ | (simp; done) | (simp; omega) | (refine .inl ?_; simp; done) | (refine .inl ?_; simp; omega)))
      · simp -implicitDefEqProofs (maxSteps := 500000) (disch := first | decide | omega) only [↓preS, ↓reduceIte, allS, Nat.reduceBEq, Nat.reduceAdd, Nat.reduceEqDiff, reduceIte, Int.reduceToNat, Int.reduceLE, Int.reduceLT, Nat.reduceLeDiff, Nat.reduceMul, Nat.reducePow, Nat.reduceLT, Int.reduceBEq, Int.reduceBNe, Int.reduceAdd, Int.reduceSub, Int.reduceMul, Int.reduceGT, Int.reduceGE, decS, Int.reduceNe, Int.reduceEq, fillOk, fillAV, List.append_nil]
        have e2 : ((2 : Nat) : Int) = 2 := rfl
        refine ⟨⟨by omega, by omega⟩, by omega, k + 1, ?_, by omega, by omega⟩
        rw [hq]
        simp only [List.map_append, List.map_cons, List.map_nil, List.length_append, List.length_cons, List.length_nil]
        (refine Sub.ofL [some 0, some 4] rfl (by simp) (by decide) (by simp [partL, AO.ro, AV.ro, AV.roL, names, AO.empty, SB, U8, SI, I64, STR] <;> (try and_intros) <;> rfl) (by simp [AO.bo, AV.bo, AV.boL, names] <;> (try and_intros) <;> rfl) ?_ <;> (try simp only [List.map_cons, List.map_nil, regsL, AV.ro, AV.roL, AV.bo, AV.boL, names, get_here, get_there, Nat.reduceBEq, List.getD_cons_zero, List.getD_cons_succ, List.getD_nil, and_true, true_and, Nat.reduceLT, List.length_cons, List.length_nil, Nat.reduceAdd, decide_true, Option.isSome_some, Bool.true_or, Bool.and_self, Option.isSome_none, Bool.false_or, beq_self_eq_true, wk0_self, wk0_nils]) <;> (try and_intros) <;> (first | done | rfl | exact .inl rfl | exact .inr ⟨rfl, _, _, rfl⟩ | (simp; done) | (simp; omega) | (refine .inl ?_; simp; done) | (refine .inl ?_; simp; omega)))
  · have : k = n + 1 := by omega
    subst this
    have hne : qsD gap (n + 1) ≠ [] := by intro e; rw [e] at a4; cases a4
    have cc := check_ok false true [[]] (qsD gap (n + 1)) lab1 (by omega) hne a3 (qsD_mem (by omega))
    have e1 : (if queuesP ([[]] : List (List UInt8)).length true [] [] (qsD gap (n + 1)) ≠ 0 then queuesP ([[]] : List (List UInt8)).length true [] [] (qsD gap (n + 1)) else sumsP ([[]] : List (List UInt8)).length (qsD gap (n + 1))) = wantD (n + 1) gap := by
      rw [← a1]
      unfold checkN
      rw [queuesN_eq]
      rfl
    rw [e1] at cc
    have hv : ∀ H : List AO, H[1]? = some (.arr 3 ((qsD gap (n + 1)).map QUE)) → Vws true H [.agg [.sl false 1 [.str []], .own 1 3 0 (qsD gap (n + 1)).length]] [CONF false true [[]] (qsD gap (n + 1))] := fun H hH => .cons (bor_conf (ls := [[]]) hH rfl) .nil
    generalize qsD gap (n + 1) = qs at *
    rcases (show (0 < gap ∧ gap < n) ∨ (0 < gap ∧ ¬ gap < n) ∨ gap = 0 by omega) with h1 | h1 | h1
    · have hw : wantD (n + 1) gap = 12 := if_pos (.inl ⟨h1.1, by omega⟩)
      rw [hw] at cc
      simp -implicitDefEqProofs (maxSteps := 500000) (disch := first | decide | omega) only [↓preS, ↓reduceIte, allS, Nat.reduceBEq, Nat.reduceAdd, Nat.reduceEqDiff, reduceIte, Int.reduceToNat, Int.reduceLE, Int.reduceLT, Nat.reduceLeDiff, Nat.reduceMul, Nat.reducePow, Nat.reduceLT, Int.reduceBEq, Int.reduceBNe, Int.reduceAdd, Int.reduceSub, Int.reduceMul, Int.reduceGT, Int.reduceGE, decS, Int.reduceNe, Int.reduceEq]
      refine acK_of (FCall.of (lent := true) cc (hv _ rfl) rfl (fun _ => rfl)) ?_
      simp -implicitDefEqProofs (maxSteps := 500000) (disch := first | decide | omega) only [↓preS, ↓reduceIte, allS, Nat.reduceBEq, Nat.reduceAdd, Nat.reduceEqDiff, reduceIte, Int.reduceToNat, Int.reduceLE, Int.reduceLT, Nat.reduceLeDiff, Nat.reduceMul, Nat.reducePow, Nat.reduceLT, Int.reduceBEq, Int.reduceBNe, Int.reduceAdd, Int.reduceSub, Int.reduceMul, Int.reduceGT, Int.reduceGE, decS, Int.reduceNe, Int.reduceEq]
    · rcases (show (n = 4 ∧ gap ≠ 4) ∨ (n = 4 ∧ gap = 4) ∨ n < 4 by omega) with h2 | h2 | h2
      · have hw : wantD (n + 1) gap = 12 := if_pos (.inr ⟨by omega, h2.2⟩)
        rw [hw] at cc
        simp -implicitDefEqProofs (maxSteps := 500000) (disch := first | decide | omega) only [↓preS, ↓reduceIte, allS, Nat.reduceBEq, Nat.reduceAdd, Nat.reduceEqDiff, reduceIte, Int.reduceToNat, Int.reduceLE, Int.reduceLT, Nat.reduceLeDiff, Nat.reduceMul, Nat.reducePow, Nat.reduceLT, Int.reduceBEq, Int.reduceBNe, Int.reduceAdd, Int.reduceSub, Int.reduceMul, Int.reduceGT, Int.reduceGE, decS, Int.reduceNe, Int.reduceEq]
        refine acK_of (FCall.of (lent := true) cc (hv _ rfl) rfl (fun _ => rfl)) ?_
        simp -implicitDefEqProofs (maxSteps := 500000) (disch := first | decide | omega) only [↓preS, ↓reduceIte, allS, Nat.reduceBEq, Nat.reduceAdd, Nat.reduceEqDiff, reduceIte, Int.reduceToNat, Int.reduceLE, Int.reduceLT, Nat.reduceLeDiff, Nat.reduceMul, Nat.reducePow, Nat.reduceLT, Int.reduceBEq, Int.reduceBNe, Int.reduceAdd, Int.reduceSub, Int.reduceMul, Int.reduceGT, Int.reduceGE, decS, Int.reduceNe, Int.reduceEq]
      · have hw : wantD (n + 1) gap = 0 := if_neg (by omega)
        rw [hw] at cc
        simp -implicitDefEqProofs (maxSteps := 500000) (disch := first | decide | omega) only [↓preS, ↓reduceIte, allS, Nat.reduceBEq, Nat.reduceAdd, Nat.reduceEqDiff, reduceIte, Int.reduceToNat, Int.reduceLE, Int.reduceLT, Nat.reduceLeDiff, Nat.reduceMul, Nat.reducePow, Nat.reduceLT, Int.reduceBEq, Int.reduceBNe, Int.reduceAdd, Int.reduceSub, Int.reduceMul, Int.reduceGT, Int.reduceGE, decS, Int.reduceNe, Int.reduceEq]
        refine acK_of (FCall.of (lent := true) cc (hv _ rfl) rfl (fun _ => rfl)) ?_
        simp -implicitDefEqProofs (maxSteps := 500000) (disch := first | decide | omega) only [↓preS, ↓reduceIte, allS, Nat.reduceBEq, Nat.reduceAdd, Nat.reduceEqDiff, reduceIte, Int.reduceToNat, Int.reduceLE, Int.reduceLT, Nat.reduceLeDiff, Nat.reduceMul, Nat.reducePow, Nat.reduceLT, Int.reduceBEq, Int.reduceBNe, Int.reduceAdd, Int.reduceSub, Int.reduceMul, Int.reduceGT, Int.reduceGE, decS, Int.reduceNe, Int.reduceEq]
      · have hw : wantD (n + 1) gap = 0 := if_neg (by omega)
        rw [hw] at cc
        simp -implicitDefEqProofs (maxSteps := 500000) (disch := first | decide | omega) only [↓preS, ↓reduceIte, allS, Nat.reduceBEq, Nat.reduceAdd, Nat.reduceEqDiff, reduceIte, Int.reduceToNat, Int.reduceLE, Int.reduceLT, Nat.reduceLeDiff, Nat.reduceMul, Nat.reducePow, Nat.reduceLT, Int.reduceBEq, Int.reduceBNe, Int.reduceAdd, Int.reduceSub, Int.reduceMul, Int.reduceGT, Int.reduceGE, decS, Int.reduceNe, Int.reduceEq]
        refine acK_of (FCall.of (lent := true) cc (hv _ rfl) rfl (fun _ => rfl)) ?_
        simp -implicitDefEqProofs (maxSteps := 500000) (disch := first | decide | omega) only [↓preS, ↓reduceIte, allS, Nat.reduceBEq, Nat.reduceAdd, Nat.reduceEqDiff, reduceIte, Int.reduceToNat, Int.reduceLE, Int.reduceLT, Nat.reduceLeDiff, Nat.reduceMul, Nat.reducePow, Nat.reduceLT, Int.reduceBEq, Int.reduceBNe, Int.reduceAdd, Int.reduceSub, Int.reduceMul, Int.reduceGT, Int.reduceGE, decS, Int.reduceNe, Int.reduceEq]
    · rcases (show (n = 4) ∨ n < 4 by omega) with h2 | h2
      · have hw : wantD (n + 1) gap = 12 := if_pos (.inr ⟨by omega, by omega⟩)
        rw [hw] at cc
        simp -implicitDefEqProofs (maxSteps := 500000) (disch := first | decide | omega) only [↓preS, ↓reduceIte, allS, Nat.reduceBEq, Nat.reduceAdd, Nat.reduceEqDiff, reduceIte, Int.reduceToNat, Int.reduceLE, Int.reduceLT, Nat.reduceLeDiff, Nat.reduceMul, Nat.reducePow, Nat.reduceLT, Int.reduceBEq, Int.reduceBNe, Int.reduceAdd, Int.reduceSub, Int.reduceMul, Int.reduceGT, Int.reduceGE, decS, Int.reduceNe, Int.reduceEq]
        refine acK_of (FCall.of (lent := true) cc (hv _ rfl) rfl (fun _ => rfl)) ?_
        simp -implicitDefEqProofs (maxSteps := 500000) (disch := first | decide | omega) only [↓preS, ↓reduceIte, allS, Nat.reduceBEq, Nat.reduceAdd, Nat.reduceEqDiff, reduceIte, Int.reduceToNat, Int.reduceLE, Int.reduceLT, Nat.reduceLeDiff, Nat.reduceMul, Nat.reducePow, Nat.reduceLT, Int.reduceBEq, Int.reduceBNe, Int.reduceAdd, Int.reduceSub, Int.reduceMul, Int.reduceGT, Int.reduceGE, decS, Int.reduceNe, Int.reduceEq]
      · have hw : wantD (n + 1) gap = 0 := if_neg (by omega)
        rw [hw] at cc
        simp -implicitDefEqProofs (maxSteps := 500000) (disch := first | decide | omega) only [↓preS, ↓reduceIte, allS, Nat.reduceBEq, Nat.reduceAdd, Nat.reduceEqDiff, reduceIte, Int.reduceToNat, Int.reduceLE, Int.reduceLT, Nat.reduceLeDiff, Nat.reduceMul, Nat.reducePow, Nat.reduceLT, Int.reduceBEq, Int.reduceBNe, Int.reduceAdd, Int.reduceSub, Int.reduceMul, Int.reduceGT, Int.reduceGE, decS, Int.reduceNe, Int.reduceEq]
        refine acK_of (FCall.of (lent := true) cc (hv _ rfl) rfl (fun _ => rfl)) ?_
        simp -implicitDefEqProofs (maxSteps := 500000) (disch := first | decide | omega) only [↓preS, ↓reduceIte, allS, Nat.reduceBEq, Nat.reduceAdd, Nat.reduceEqDiff, reduceIte, Int.reduceToNat, Int.reduceLE, Int.reduceLT, Nat.reduceLeDiff, Nat.reduceMul, Nat.reducePow, Nat.reduceLT, Int.reduceBEq, Int.reduceBNe, Int.reduceAdd, Int.reduceSub, Int.reduceMul, Int.reduceGT, Int.reduceGE, decS, Int.reduceNe, Int.reduceEq]
end Go.Proofs.YtcplpegahpmnjaaDoor
