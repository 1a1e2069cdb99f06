/- What functions of the program compute. No condition. -/
import Derived.Test.YtgpipheibnlkhaaWL
import Derived.Test.YtgpipheibnlkhaaWBc
set_option linter.unusedSimpArgs false
set_option linter.unusedVariables false
namespace Go.Proofs.Ytgpipheibnlkhaa
open Go Go.Ab

def ask1 (s : RS) : Ask × RS :=
  let a := intR s
  let b := intR a.2
  let c := intR b.2
  let d := intR c.2
  let e := intR d.2
  let f := intR e.2
  let g := intR f.2
  (⟨a.1, b.1, c.1, d.1, e.1, f.1, g.1, 0⟩, g.2)
def asksN : Nat → RS → List Ask × RS
  | 0, s => ([], s)
  | n + 1, s => ((ask1 s).1 :: (asksN n (ask1 s).2).1, (asksN n (ask1 s).2).2)
def failR (s : RS) (e : Int) : RS := ⟨s.b, if s.e = 0 then e else s.e⟩
def asksR (s : RS) : List Ask × RS :=
  if (intR s).1 < 0 ∨ 20 < (intR s).1 then ([], failR (intR s).2 4) else asksN (intR s).1.toNat (intR s).2

theorem ask1_le (s : RS) : (ask1 s).2.b.length ≤ s.b.length := by
  unfold ask1
  have h1 := intR_le s
  have h2 := intR_le (intR s).2
  have h3 := intR_le (intR (intR s).2).2
  have h4 := intR_le (intR (intR (intR s).2).2).2
  have h5 := intR_le (intR (intR (intR (intR s).2).2).2).2
  have h6 := intR_le (intR (intR (intR (intR (intR s).2).2).2).2).2
  have h7 := intR_le (intR (intR (intR (intR (intR (intR s).2).2).2).2).2).2
  simp only
  omega

theorem asksN_snoc : ∀ (n : Nat) (s : RS), asksN (n + 1) s = ((asksN n s).1 ++ [(ask1 (asksN n s).2).1], (ask1 (asksN n s).2).2)
  | 0, s => rfl
  | n + 1, s => by
    have ih := asksN_snoc n (ask1 s).2
    rw [asksN, ih]
    rfl
theorem asksN_len : ∀ (n : Nat) (s : RS), (asksN n s).1.length = n
  | 0, s => rfl
  | n + 1, s => by rw [asksN_snoc]; simp [asksN_len n s]
theorem asksN_le : ∀ (n : Nat) (s : RS), (asksN n s).2.b.length ≤ s.b.length
  | 0, s => Nat.le_refl _
  | n + 1, s => by
    rw [asksN_snoc]
    exact Nat.le_trans (ask1_le _) (asksN_le n s)

theorem asksR_le (s : RS) : (asksR s).2.b.length ≤ s.b.length := by
  unfold asksR
  split
  · exact intR_le s
  · exact Nat.le_trans (asksN_le _ _) (intR_le s)

theorem loop48 (n : Nat) (hn : n ≤ 20) (s : RS) (hs : s.b.length < 2 ^ 62) (Q : AE → St → Prop)
    (h : Q .normal ⟨[(4, .own 1 8 0 n)], [(asksN n s).2.obj, .arr 8 ((asksN n s).1.map ASK)]⟩) :
    aw Try.prog cc48L0 Q ⟨[(4, .nils), (5, .fn (.func 45) [.ref 0 0 0] []), (18, .int .i64 (n : Int)), (19, .int .i64 0)], [s.obj]⟩ := by
  unfold cc48L0
  simp -implicitDefEqProofs (maxSteps := 500000) (disch := first | decide | omega) only [↓preS, ↓reduceIte, allS, Nat.reduceBEq, Nat.reduceAdd, Nat.reduceEqDiff, reduceIte, Int.reduceToNat, Int.reduceLE, Int.reduceLT, Nat.reduceLeDiff, Nat.reduceMul, Nat.reducePow, Nat.reduceLT, Int.reduceBEq, Int.reduceBNe, Int.reduceAdd, Int.reduceSub, Int.reduceMul, Int.reduceGT, Int.reduceGE, decS, Int.reduceNe, Int.reduceEq]
  refine aw_loopS (σ := Nat) (fun i => ⟨[(4, .own 1 8 0 i), (5, .fn (.func 45) [.ref 0 0 0] []), (18, .int .i64 (n : Int)), (19, .int .i64 (i : Int))], [(asksN i s).2.obj, .arr 8 ((asksN i s).1.map ASK)]⟩)
    (fun i => i ≤ n) (fun i => n - i) 0 ?_ (by simp) ?_
  · simp only [asksN, List.map_nil, RS.obj, RB]
    (refine Sub.ofL [some 0, none] rfl (by simp) (by decide) (by simp [partL, AO.ro, AV.ro, AV.roL, names, AO.empty, SB, U8, SI, I64, STR]) (by simp [AO.bo, AV.bo, AV.boL, names]) ?_ <;> (try simp only [List.map_cons, List.map_nil, regsL, AV.ro, AV.roL, AV.bo, AV.boL, names, get_here, get_there, Nat.reduceBEq, List.getD_cons_zero, List.getD_cons_succ, List.getD_nil, and_true, true_and, Nat.reduceLT, List.length_cons, List.length_nil, Nat.reduceAdd, decide_true, Option.isSome_some, Bool.true_or, Bool.and_self, Option.isSome_none, Bool.false_or, beq_self_eq_true, wk0_self, wk0_nils]) <;> (try and_intros) <;> (first | done | rfl | exact .inl rfl | exact .inr ⟨rfl, _, _, rfl⟩ | (simp; done) | (simp; omega) | (refine .inl ?_; simp; done) | (refine .inl ?_; simp; omega)))
  intro k hk
  unfold cc48l0
  simp -implicitDefEqProofs (maxSteps := 500000) (disch := first | decide | omega) only [↓preS, ↓reduceIte, allS, Nat.reduceBEq, Nat.reduceAdd, Nat.reduceEqDiff, reduceIte, Int.reduceToNat, Int.reduceLE, Int.reduceLT, Nat.reduceLeDiff, Nat.reduceMul, Nat.reducePow, Nat.reduceLT, Int.reduceBEq, Int.reduceBNe, Int.reduceAdd, Int.reduceSub, Int.reduceMul, Int.reduceGT, Int.reduceGE, decS, Int.reduceNe, Int.reduceEq]
  have hl := asksN_len k s
  have hle := asksN_le k s
  refine cK_split (fun hb => ?_) (fun hb => ?_)
  · simp (disch := omega) only [decide_eq_true_eq, decide_eq_false_iff_not, wrap_i64, beq_iff_eq, bne_iff_ne, beq_eq_false_iff_ne, bne_eq_false_iff_eq, Bool.not_eq_true, Bool.not_eq_false, eq_u32, ne_u32] at hb
    have hsn := asksN_snoc k s
    generalize asksN k s = q at hl hle hsn ⊢
    obtain ⟨l, s0⟩ := q
    simp only at hl hle hsn
    subst hl
    have h1 := intR_le s0
    have h2 := intR_le (intR s0).2
    have h3 := intR_le (intR (intR s0).2).2
    have h4 := intR_le (intR (intR (intR s0).2).2).2
    have h5 := intR_le (intR (intR (intR (intR s0).2).2).2).2
    have h6 := intR_le (intR (intR (intR (intR (intR s0).2).2).2).2).2
    simp -implicitDefEqProofs (maxSteps := 500000) (disch := first | decide | omega) only [↓preS, ↓reduceIte, allS, Nat.reduceBEq, Nat.reduceAdd, Nat.reduceEqDiff, reduceIte, Int.reduceToNat, Int.reduceLE, Int.reduceLT, Nat.reduceLeDiff, Nat.reduceMul, Nat.reducePow, Nat.reduceLT, Int.reduceBEq, Int.reduceBNe, Int.reduceAdd, Int.reduceSub, Int.reduceMul, Int.reduceGT, Int.reduceGE, decS, Int.reduceNe, Int.reduceEq]
    refine acK_rd (int_read s0 (by omega)) rfl (fun _ => rfl) (fun _ => rfl) rfl (fun _ => rfl) (fun _ => rfl) rfl ?_
    simp -implicitDefEqProofs (maxSteps := 500000) (disch := first | decide | omega) only [↓preS, ↓reduceIte, allS, Nat.reduceBEq, Nat.reduceAdd, Nat.reduceEqDiff, reduceIte, Int.reduceToNat, Int.reduceLE, Int.reduceLT, Nat.reduceLeDiff, Nat.reduceMul, Nat.reducePow, Nat.reduceLT, Int.reduceBEq, Int.reduceBNe, Int.reduceAdd, Int.reduceSub, Int.reduceMul, Int.reduceGT, Int.reduceGE, decS, Int.reduceNe, Int.reduceEq, fillOk, fillAV]
    refine acK_rd (int_read (intR s0).2 (by omega)) rfl (fun _ => rfl) (fun _ => rfl) rfl (fun _ => rfl) (fun _ => rfl) rfl ?_
    simp -implicitDefEqProofs (maxSteps := 500000) (disch := first | decide | omega) only [↓preS, ↓reduceIte, allS, Nat.reduceBEq, Nat.reduceAdd, Nat.reduceEqDiff, reduceIte, Int.reduceToNat, Int.reduceLE, Int.reduceLT, Nat.reduceLeDiff, Nat.reduceMul, Nat.reducePow, Nat.reduceLT, Int.reduceBEq, Int.reduceBNe, Int.reduceAdd, Int.reduceSub, Int.reduceMul, Int.reduceGT, Int.reduceGE, decS, Int.reduceNe, Int.reduceEq, fillOk, fillAV]
    refine acK_rd (int_read (intR (intR s0).2).2 (by omega)) rfl (fun _ => rfl) (fun _ => rfl) rfl (fun _ => rfl) (fun _ => rfl) rfl ?_
    simp -implicitDefEqProofs (maxSteps := 500000) (disch := first | decide | omega) only [↓preS, ↓reduceIte, allS, Nat.reduceBEq, Nat.reduceAdd, Nat.reduceEqDiff, reduceIte, Int.reduceToNat, Int.reduceLE, Int.reduceLT, Nat.reduceLeDiff, Nat.reduceMul, Nat.reducePow, Nat.reduceLT, Int.reduceBEq, Int.reduceBNe, Int.reduceAdd, Int.reduceSub, Int.reduceMul, Int.reduceGT, Int.reduceGE, decS, Int.reduceNe, Int.reduceEq, fillOk, fillAV]
    refine acK_rd (int_read (intR (intR (intR s0).2).2).2 (by omega)) rfl (fun _ => rfl) (fun _ => rfl) rfl (fun _ => rfl) (fun _ => rfl) rfl ?_
    simp -implicitDefEqProofs (maxSteps := 500000) (disch := first | decide | omega) only [↓preS, ↓reduceIte, allS, Nat.reduceBEq, Nat.reduceAdd, Nat.reduceEqDiff, reduceIte, Int.reduceToNat, Int.reduceLE, Int.reduceLT, Nat.reduceLeDiff, Nat.reduceMul, Nat.reducePow, Nat.reduceLT, Int.reduceBEq, Int.reduceBNe, Int.reduceAdd, Int.reduceSub, Int.reduceMul, Int.reduceGT, Int.reduceGE, decS, Int.reduceNe, Int.reduceEq, fillOk, fillAV]
    refine acK_rd (int_read (intR (intR (intR (intR s0).2).2).2).2 (by omega)) rfl (fun _ => rfl) (fun _ => rfl) rfl (fun _ => rfl) (fun _ => rfl) rfl ?_
    simp -implicitDefEqProofs (maxSteps := 500000) (disch := first | decide | omega) only [↓preS, ↓reduceIte, allS, Nat.reduceBEq, Nat.reduceAdd, Nat.reduceEqDiff, reduceIte, Int.reduceToNat, Int.reduceLE, Int.reduceLT, Nat.reduceLeDiff, Nat.reduceMul, Nat.reducePow, Nat.reduceLT, Int.reduceBEq, Int.reduceBNe, Int.reduceAdd, Int.reduceSub, Int.reduceMul, Int.reduceGT, Int.reduceGE, decS, Int.reduceNe, Int.reduceEq, fillOk, fillAV]
    refine acK_rd (int_read (intR (intR (intR (intR (intR s0).2).2).2).2).2 (by omega)) rfl (fun _ => rfl) (fun _ => rfl) rfl (fun _ => rfl) (fun _ => rfl) rfl ?_
    simp -implicitDefEqProofs (maxSteps := 500000) (disch := first | decide | omega) only [↓preS, ↓reduceIte, allS, Nat.reduceBEq, Nat.reduceAdd, Nat.reduceEqDiff, reduceIte, Int.reduceToNat, Int.reduceLE, Int.reduceLT, Nat.reduceLeDiff, Nat.reduceMul, Nat.reducePow, Nat.reduceLT, Int.reduceBEq, Int.reduceBNe, Int.reduceAdd, Int.reduceSub, Int.reduceMul, Int.reduceGT, Int.reduceGE, decS, Int.reduceNe, Int.reduceEq, fillOk, fillAV]
    refine acK_rd (int_read (intR (intR (intR (intR (intR (intR s0).2).2).2).2).2).2 (by omega)) rfl (fun _ => rfl) (fun _ => rfl) rfl (fun _ => rfl) (fun _ => rfl) rfl ?_
    simp -implicitDefEqProofs (maxSteps := 500000) (disch := first | decide | omega) only [↓preS, ↓reduceIte, allS, Nat.reduceBEq, Nat.reduceAdd, Nat.reduceEqDiff, reduceIte, Int.reduceToNat, Int.reduceLE, Int.reduceLT, Nat.reduceLeDiff, Nat.reduceMul, Nat.reducePow, Nat.reduceLT, Int.reduceBEq, Int.reduceBNe, Int.reduceAdd, Int.reduceSub, Int.reduceMul, Int.reduceGT, Int.reduceGE, decS, Int.reduceNe, Int.reduceEq, fillOk, fillAV]
    refine ⟨⟨by omega, by omega⟩, l.length + 1, ?_, by omega, by omega⟩
    rw [hsn]
    have ea : l.map ASK ++ [.agg [.int .i64 (intR s0).1, .int .i64 (intR (intR s0).2).1, .int .i64 (intR (intR (intR s0).2).2).1, .int .i64 (intR (intR (intR (intR s0).2).2).2).1, .int .i64 (intR (intR (intR (intR (intR s0).2).2).2).2).1, .int .i64 (intR (intR (intR (intR (intR (intR s0).2).2).2).2).2).1, .int .i64 (intR (intR (intR (intR (intR (intR (intR s0).2).2).2).2).2).2).1, .int .i64 0]] = (l ++ [(ask1 s0).1]).map ASK := by
      rw [List.map_append]
      rfl
    rw [ea]
    show Sub _ _ ⟨_, [(ask1 s0).2.obj, .arr 8 ((l ++ [(ask1 s0).1]).map ASK)]⟩
    have eo : (intR (intR (intR (intR (intR (intR (intR s0).2).2).2).2).2).2).2 = (ask1 s0).2 := rfl
    rw [eo]
    generalize (ask1 s0).2 = u
    generalize (l ++ [(ask1 s0).1]).map ASK = z
    simp only [RS.obj, RB]
    (refine Sub.ofL [some 0, some 3] rfl (by simp) (by decide) (by simp [partL, AO.ro, AV.ro, AV.roL, names, AO.empty, SB, U8, SI, I64, STR]) (by simp [AO.bo, AV.bo, AV.boL, names]) ?_ <;> (try simp only [List.map_cons, List.map_nil, regsL, AV.ro, AV.roL, AV.bo, AV.boL, names, get_here, get_there, Nat.reduceBEq, List.getD_cons_zero, List.getD_cons_succ, List.getD_nil, and_true, true_and, Nat.reduceLT, List.length_cons, List.length_nil, Nat.reduceAdd, decide_true, Option.isSome_some, Bool.true_or, Bool.and_self, Option.isSome_none, Bool.false_or, beq_self_eq_true, wk0_self, wk0_nils]) <;> (try and_intros) <;> (first | done | rfl | exact .inl rfl | exact .inr ⟨rfl, _, _, rfl⟩ | (simp; done) | (simp; omega) | (refine .inl ?_; simp; done) | (refine .inl ?_; simp; omega)))
  · simp (disch := omega) only [decide_eq_true_eq, decide_eq_false_iff_not, wrap_i64, beq_iff_eq, bne_iff_ne, beq_eq_false_iff_ne, bne_eq_false_iff_eq, Bool.not_eq_true, Bool.not_eq_false, eq_u32, ne_u32] at hb
    simp -implicitDefEqProofs (maxSteps := 500000) (disch := first | decide | omega) only [↓preS, ↓reduceIte, allS, Nat.reduceBEq, Nat.reduceAdd, Nat.reduceEqDiff, reduceIte, Int.reduceToNat, Int.reduceLE, Int.reduceLT, Nat.reduceLeDiff, Nat.reduceMul, Nat.reducePow, Nat.reduceLT, Int.reduceBEq, Int.reduceBNe, Int.reduceAdd, Int.reduceSub, Int.reduceMul, Int.reduceGT, Int.reduceGE, decS, Int.reduceNe, Int.reduceEq]
    have : k = n := by omega
    subst this
    exact h

theorem asks_read (s : RS) (hs : s.b.length < 2 ^ 62) : ACall Try.prog 48 [.ref 0 0 0] [s.obj] fun y H' => y = .sl false 8 ((asksR s).1.map ASK) ∧ H' = [(asksR s).2.obj] := by
  have key : ACall Try.prog 48 [.ref 0 0 0] [s.obj] fun y H' => ((y = .nils ∧ (asksR s).1 = []) ∨ y = .sl false 8 ((asksR s).1.map ASK)) ∧ ∃ G, H' = (asksR s).2.obj :: G := by
    refine acall_at is48 (by simp) rfl ?_
    unfold cc48
    simp -implicitDefEqProofs (maxSteps := 500000) (disch := first | decide | omega) only [↓preS, ↓reduceIte, allS, Nat.reduceBEq, Nat.reduceAdd, Nat.reduceEqDiff, reduceIte, Int.reduceToNat, Int.reduceLE, Int.reduceLT, Nat.reduceLeDiff, Nat.reduceMul, Nat.reducePow, Nat.reduceLT, Int.reduceBEq, Int.reduceBNe, Int.reduceAdd, Int.reduceSub, Int.reduceMul, Int.reduceGT, Int.reduceGE, decS, Int.reduceNe, Int.reduceEq]
    refine acK_rd (int_read s hs) rfl (fun _ => rfl) (fun _ => rfl) rfl (fun _ => rfl) (fun _ => rfl) rfl ?_
    have h1 := intR_le s
    by_cases hc : (intR s).1 < 0 ∨ 20 < (intR s).1
    · have e : asksR s = ([], failR (intR s).2 4) := if_pos hc
      rw [e]
      have fin : ((AV.nils = AV.nils ∧ ([] : List Ask) = []) ∨ AV.nils = .sl false 8 (([] : List Ask).map ASK)) ∧ ∃ G, [(failR (intR s).2 4).obj] = (failR (intR s).2 4).obj :: G := ⟨.inl ⟨rfl, rfl⟩, [], rfl⟩
      by_cases h2 : (intR s).1 < 0
      · simp -implicitDefEqProofs (maxSteps := 500000) (disch := first | decide | omega) only [↓preS, ↓reduceIte, allS, Nat.reduceBEq, Nat.reduceAdd, Nat.reduceEqDiff, reduceIte, Int.reduceToNat, Int.reduceLE, Int.reduceLT, Nat.reduceLeDiff, Nat.reduceMul, Nat.reducePow, Nat.reduceLT, Int.reduceBEq, Int.reduceBNe, Int.reduceAdd, Int.reduceSub, Int.reduceMul, Int.reduceGT, Int.reduceGE, decS, Int.reduceNe, Int.reduceEq]
        refine acK_rd (fail_ok (intR s).2.b (intR s).2.e 4) rfl (fun _ => rfl) (fun _ => rfl) rfl (fun _ => rfl) (fun _ => rfl) rfl ?_
        simp -implicitDefEqProofs (maxSteps := 500000) (disch := first | decide | omega) only [↓preS, ↓reduceIte, allS, Nat.reduceBEq, Nat.reduceAdd, Nat.reduceEqDiff, reduceIte, Int.reduceToNat, Int.reduceLE, Int.reduceLT, Nat.reduceLeDiff, Nat.reduceMul, Nat.reducePow, Nat.reduceLT, Int.reduceBEq, Int.reduceBNe, Int.reduceAdd, Int.reduceSub, Int.reduceMul, Int.reduceGT, Int.reduceGE, decS, Int.reduceNe, Int.reduceEq]
        exact fin.2
      · simp -implicitDefEqProofs (maxSteps := 500000) (disch := first | decide | omega) only [↓preS, ↓reduceIte, allS, Nat.reduceBEq, Nat.reduceAdd, Nat.reduceEqDiff, reduceIte, Int.reduceToNat, Int.reduceLE, Int.reduceLT, Nat.reduceLeDiff, Nat.reduceMul, Nat.reducePow, Nat.reduceLT, Int.reduceBEq, Int.reduceBNe, Int.reduceAdd, Int.reduceSub, Int.reduceMul, Int.reduceGT, Int.reduceGE, decS, Int.reduceNe, Int.reduceEq]
        refine acK_rd (fail_ok (intR s).2.b (intR s).2.e 4) rfl (fun _ => rfl) (fun _ => rfl) rfl (fun _ => rfl) (fun _ => rfl) rfl ?_
        simp -implicitDefEqProofs (maxSteps := 500000) (disch := first | decide | omega) only [↓preS, ↓reduceIte, allS, Nat.reduceBEq, Nat.reduceAdd, Nat.reduceEqDiff, reduceIte, Int.reduceToNat, Int.reduceLE, Int.reduceLT, Nat.reduceLeDiff, Nat.reduceMul, Nat.reducePow, Nat.reduceLT, Int.reduceBEq, Int.reduceBNe, Int.reduceAdd, Int.reduceSub, Int.reduceMul, Int.reduceGT, Int.reduceGE, decS, Int.reduceNe, Int.reduceEq]
        exact fin.2
    · have e : asksR s = asksN (intR s).1.toNat (intR s).2 := if_neg hc
      rw [e]
      obtain ⟨n, hn⟩ : ∃ n : Nat, (intR s).1 = (n : Int) := ⟨(intR s).1.toNat, by omega⟩
      have hn20 : n ≤ 20 := by omega
      rw [hn]
      simp -implicitDefEqProofs (maxSteps := 500000) (disch := first | decide | omega) only [↓preS, ↓reduceIte, allS, Nat.reduceBEq, Nat.reduceAdd, Nat.reduceEqDiff, reduceIte, Int.reduceToNat, Int.reduceLE, Int.reduceLT, Nat.reduceLeDiff, Nat.reduceMul, Nat.reducePow, Nat.reduceLT, Int.reduceBEq, Int.reduceBNe, Int.reduceAdd, Int.reduceSub, Int.reduceMul, Int.reduceGT, Int.reduceGE, decS, Int.reduceNe, Int.reduceEq]
      refine loop48 n hn20 (intR s).2 (by omega) _ ?_
      have hl := asksN_len n (intR s).2
      generalize asksN n (intR s).2 = q at hl ⊢
      obtain ⟨l, u⟩ := q
      simp only at hl
      subst hl
      simp -implicitDefEqProofs (maxSteps := 500000) (disch := first | decide | omega) only [↓preS, ↓reduceIte, allS, Nat.reduceBEq, Nat.reduceAdd, Nat.reduceEqDiff, reduceIte, Int.reduceToNat, Int.reduceLE, Int.reduceLT, Nat.reduceLeDiff, Nat.reduceMul, Nat.reducePow, Nat.reduceLT, Int.reduceBEq, Int.reduceBNe, Int.reduceAdd, Int.reduceSub, Int.reduceMul, Int.reduceGT, Int.reduceGE, decS, Int.reduceNe, Int.reduceEq]
      exact ⟨_, rfl⟩
  refine key.sub ?_
  rintro y G ⟨hy, G, rfl⟩
  rcases hy with ⟨rfl, h1⟩ | rfl
  · rw [h1]
    refine ⟨_, _, ?_, rfl, rfl⟩
    simp only [RS.obj, RB]
    (refine Sub.ofL [some 0] rfl (by simp) (by decide) (by simp [partL, AO.ro, AV.ro, AV.roL, names, AO.empty, SB, U8, SI, I64, STR]) (by simp [AO.bo, AV.bo, AV.boL, names]) ?_ <;> (try simp only [List.map_cons, List.map_nil, regsL, AV.ro, AV.roL, AV.bo, AV.boL, names, get_here, get_there, Nat.reduceBEq, List.getD_cons_zero, List.getD_cons_succ, List.getD_nil, and_true, true_and, Nat.reduceLT, List.length_cons, List.length_nil, Nat.reduceAdd, decide_true, Option.isSome_some, Bool.true_or, Bool.and_self, Option.isSome_none, Bool.false_or, beq_self_eq_true, wk0_self, wk0_nils]) <;> (try and_intros) <;> (first | done | rfl | exact .inl rfl | exact .inr ⟨rfl, _, _, rfl⟩ | (simp; done) | (simp; omega) | (refine .inl ?_; simp; done) | (refine .inl ?_; simp; omega)))
  · refine ⟨_, _, ?_, rfl, rfl⟩
    simp only [RS.obj, RB]
    (refine Sub.ofL [some 0] rfl (by simp) (by decide) (by simp [partL, AO.ro, AV.ro, AV.roL, names, AO.empty, SB, U8, SI, I64, STR]) (by simp [AO.bo, AV.bo, AV.boL, names]) ?_ <;> (try simp only [List.map_cons, List.map_nil, regsL, AV.ro, AV.roL, AV.bo, AV.boL, names, get_here, get_there, Nat.reduceBEq, List.getD_cons_zero, List.getD_cons_succ, List.getD_nil, and_true, true_and, Nat.reduceLT, List.length_cons, List.length_nil, Nat.reduceAdd, decide_true, Option.isSome_some, Bool.true_or, Bool.and_self, Option.isSome_none, Bool.false_or, beq_self_eq_true, wk0_self, wk0_nils]) <;> (try and_intros) <;> (first | done | rfl | exact .inl rfl | exact .inr ⟨rfl, _, _, rfl⟩ | (simp; done) | (simp; omega) | (refine .inl ?_; simp; done) | (refine .inl ?_; simp; omega)))
end Go.Proofs.Ytgpipheibnlkhaa
